/- An operation as data. No condition. -/
import Derived.Test.YtjahcnjmjahbaaaGreatData
namespace Go.Proofs.YtjahcnjmjahbaaaGreat
open Go.ChangeShapes Go.WideShapes Go.ChangeAt Go.RowKit
set_option linter.unusedVariables false
set_option linter.unusedSimpArgs false
set_option maxHeartbeats 1000000
structure CN where
 kind:Int
 name:ByteArray
 uk:cF
 weights:rZ
instance:bk CN:=bk.oD fun x=>(x.kind,x.name,x.uk,x.weights)
def kL {α:Type} (f:α→Nat) (xs:List α):Nat:=xs.length+(xs.map f).sum
abbrev Ea (xs:List ByteArray):Nat:=kL ByteArray.size xs
theorem Bq {α:Type} {f:α→Nat} {xs:List α} {x:α} (h:x∈xs):f x≤kL f xs:=by
 unfold kL;induction xs with
 | nil=>cases h
 | cons y ys ih =>
   rcases List.mem_cons.1 h with rfl | h
   ·simp;omega
   ·have:=ih h;simp at this ⊢;omega
theorem rM {α:Type} {f:α→Nat} {xs:List α} {k:Nat} (h:k < xs.length):f xs[k]≤kL f xs:=Bq (List.getElem_mem h)
theorem gJ {α:Type} (f:α→Nat) (xs:List α):xs.length≤kL f xs:=by unfold kL;omega
def aD.wt (x:aD):Nat:=x.key.size+x.value.size
def bj.wt (x:bj):Nat:=x.key.size+Ea x.values
def iU.wt (x:iU):Nat:=x.key.size+x.value.size
def bH.wt (x:bH):Nat:=x.key.size+x.value.size
def nI.wt (x:nI):Nat:=x.name.size+kL aD.wt x.labels+kL bj.wt x.ai+kL bH.wt x.ae
def ba.wt (x:ba):Nat:=x.name.size+kL aD.wt x.labels+kL iU.wt x.aT
def ag.wt (x:ag):Nat:=x.aS.wt+x.on.size
def aU.wt (x:aU):Nat:=kL ba.wt x.aa+kL ag.wt x.J
def cF.wt (x:cF):Nat:=x.aS.wt+x.bx.wt
def tV.wt (x:tV):Nat:=x.path.size
def sH (P:Program) (t:TypeId) (α:Type) [bk α]:Prop:=∀(H:Type) (enc:TypeId × Value→H) (w:World) (base fp:Nat) (spare:Nat→Bool) (held:Bool) (cs:List Value) (d:DataW H × List MemPlace),
 DataW.trod enc P w base spare held fp t cs = some d→∃(x:α) (F:List Nat),rd w x cs F
theorem yH {P:Program} {t e:TypeId} {α:Type} [bk α] (ht:P.underlying t = some (.slice e)) (hC:P.cellsOf e = bk.size α) (h:sH P e α):sH P t (List α):=by
 intro H enc w base fp spare held cs d hd;rcases Deep.open_slice ht hd with ⟨rfl,_⟩ | ⟨a,len,aM,m,n,D,Pl,rfl,hb,hl,hm,x9,hx,hi⟩
 ·exact ⟨[],[],Sl.nil w none 0 (Nat.zero_le _)⟩
 ·rcases Nat.eq_zero_or_pos len with rfl | fc
  ·exact ⟨[],[],Sl.nil w (some a) aM hm⟩
  ·have hlm:len≤m:=(by rw [x9];split <;> omega);have hpos':=bk.pos (α:=α);have ke:a.spot = none∧a.block < w.heap.size:=by
    obtain ⟨Tq,hc,_⟩:=hi 0 O;obtain ⟨_,pF,cL⟩:=World.cells?_some hc;have h0:=cL (i:=0) O;simp only [Nat.zero_mul] at h0;have e0:(a.add 0).add 0 = a:=(by simp [Addr.add]);rw [e0] at h0;rw [List.getElem?_eq_getElem O] at h0;refine ⟨?_,World.block_lt_of_cell? w a h0⟩;unfold World.cell? at h0;split at h0
    ·split at h0
     ·cases h0
     ·rename_i hs;simpa using hs
    ·cases h0
   obtain ⟨b,o,sp⟩:=a;obtain ⟨rfl,hblt⟩:=ke;have step:∀k,k≤len→∃(xs:List α) (ds:List Value) (G:List Nat),xs.length = k∧jo w xs ds G∧∀j u,ds[j]? = some u→w.cell? ⟨b,o+j,none⟩ = some u:=by
    intro k;induction k with
    | zero=>exact fun _=>⟨[],[],[],rfl,⟨rfl,rfl⟩,fun j u hu=>by simp at hu⟩
    | succ k ih =>
      intro hk;obtain ⟨xs,ds,G,mB,hr,hc⟩:=ih O;obtain ⟨Tq,fo,htr⟩:=hi k O;obtain ⟨x,F,hxr⟩:=h H enc w base n spare held Tq _ htr;obtain ⟨_,pF,cL⟩:=World.cells?_some fo;refine ⟨xs++[x],ds++Tq,G++F,by simp [mB],hr.append (.single hxr),fun j u hu=>?_⟩;have gw:=hr.len;rw [mB] at gw;by_cases hj:j < ds.length
      ·exact hc j u (by rwa [List.getElem?_append_left hj] at hu)
      ·rw [List.getElem?_append_right O] at hu;have Yp:=(List.getElem?_eq_some_iff.1 hu).1;have h1:=cL (i:=j - ds.length) O;rw [hu,hC] at h1;have e1:((⟨b,o,none⟩:Addr).add (k * bk.size α)).add (j - ds.length) = ⟨b,o+j,none⟩:=by
        rw [Deep.add_add];unfold Addr.add;split
        ·simp <;> omega
        ·simp <;> omega
       rw [e1] at h1;exact h1
   obtain ⟨xs,ds,G,mB,hr,hc⟩:=step len (Nat.le_refl _);subst mB;exact ⟨xs,b :: G,_,aM,G,ds,rfl,hl,hm,hr,.inr ⟨b,o,rfl,rfl,hblt,hc⟩⟩
section
variable {α β:Type} [bk α] [bk β] {w:World} {B B2:Nat} {x:α} {y:β} {c1 c2:List Value} {F1 F2:List Nat}
theorem am.fa (h1:am w B x c1 F1) (h2:am w B2 y c2 F2) (hB:B≤B2) (hF:∀b∈F1,b < B2):am w B (x,y) (c1++c2) (F1++F2):=by
 refine ⟨⟨c1,c2,F1,F2,rfl,rfl,h1.rd,h2.rd⟩,?_,?_,?_⟩
 ·rw [List.nodup_append];exact ⟨h1.nodup,h2.nodup,fun a ha b hb=>by have:=hF a ha;have:=h2.base b hb;omega⟩
 ·intro b hb;rcases List.mem_append.1 hb with hb | hb
  ·exact h1.base b hb
  ·exact Nat.le_trans hB (h2.base b hb)
 ·intro b hb;rcases List.mem_append.1 hb with hb | hb
  ·exact h1.plain b hb
  ·exact h2.plain b hb
theorem am.up {γ:Type} {z:γ} {cs:List Value} {F:List Nat} {B':Nat} (g:γ→β) (h:am w B' (g z) cs F) (hB:B≤B'):@am γ (bk.oD g) w B z cs F :=
 @am.mk γ (bk.oD g) w B z cs F h.rd h.nodup (fun b hb=>Nat.le_trans hB (h.base b hb)) h.plain
theorem am.cons (h1:Go.Proofs.YtjahcnjmjahbaaaGreat.bk.rd w x c1 []) (h2:am w B y c2 F2):am w B (x,y) (c1++c2) F2:=by
 have:=(am.en (B:=B) h1).fa h2 (Nat.le_refl _) (fun b hb=>by cases hb);simpa using this
end
theorem ao2:(Tryz.prog.info? 9).map (fun i=>(i.zero,i.size,i.bytes)) = some (some (.string ⟨#[]⟩),1,16):=by kernel_rfl
theorem qw:DL Tryz.prog 61 9 (.string ⟨#[]⟩) 1 16:=⟨Tryz.underlying61,ao2,rfl,O⟩
theorem Ce {a b:ByteArray} (h:(a.toList == b.toList) = true):a = b:=by
 have h1:a.toList = b.toList:=by simpa using h
 have h2:a.data.toList = b.data.toList:=by rw [← ByteArray.toList_eq,← ByteArray.toList_eq];exact h1
 cases a;cases b;simp_all
def lf (a b:ByteArray):Bool:=a.toList == b.toList
theorem PW (a b:ByteArray):lf a b = true↔a = b:=⟨Ce,fun h=>by subst h;simp [lf]⟩
def same {α:Type} (eq:α→α→Bool):List α→List α→Bool
 | [],[]=>true
 | a :: l,b :: m=>eq a b&&same eq l m
 | _,_=>false
theorem qN {α:Type} {eq:α→α→Bool} : ∀{l m:List α},l.length≠m.length→same eq l m = false
 | [],[],h=>absurd rfl h
 | [],_ :: _,_=>rfl
 | _ :: _,[],_=>rfl
 | a :: l,b :: m,h=>by simp only [same];rw [qN (l:=l) (m:=m) RM];simp
theorem iC {α:Type} {eq:α→α→Bool} {l m:List α} {k:Nat} (h:k < l.length) (h':k < m.length):same eq (l.take (k+1)) (m.take (k+1)) = (same eq (l.take k) (m.take k)&&eq l[k] m[k]):=by
 induction k generalizing l m with
 | zero =>
   cases l with
   | nil=>simp at h
   | cons a l =>
     cases m with
     | nil=>simp at h'
     | cons b m=>simp [same]
 | succ k ih =>
   cases l with
   | nil=>simp at h
   | cons a l =>
     cases m with
     | nil=>simp at h'
     | cons b m =>simp only [List.take_succ_cons,same];rw [ih RM (by simpa using h'),Bool.and_assoc];simp
theorem nP {α:Type} {eq:α→α→Bool} {l m:List α} (k:Nat) (h:same eq (l.take k) (m.take k) = false) (hl:l.length = m.length):same eq l m = false:=by
 induction k generalizing l m with
 | zero=>simp [same] at h
 | succ k ih =>cases l <;> cases m <;> simp_all [same]
theorem b9 {α:Type} {eq:α→α→Bool} (h:∀a b,eq a b = true↔a = b):∀(l m:List α),same eq l m = true↔l = m
 | [],[]=>by simp [same]
 | [],_ :: _=>by simp [same]
 | _ :: _,[]=>by simp [same]
 | a :: l,b :: m=>by simp [same,h,b9 h l m]
def vZ (a b:aD):Bool:=(a.key.toList == b.key.toList)&&(a.value.toList == b.value.toList)
theorem J8 (a b:aD):vZ a b = true↔a = b:=by
 constructor
 ·intro h;simp only [vZ,Bool.and_eq_true] at h;have h0:=Ce h.1;have h1:=Ce h.2;cases a;cases b
  simp only at h0 h1;subst h0 h1;rfl
 ·rintro rfl;simp [vZ, *]
def yI (a b:bj):Bool:=(a.key.toList == b.key.toList)&&(a.op == b.op)&&same lf a.values b.values
theorem Sh (a b:bj):yI a b = true↔a = b:=by
 constructor
 ·intro h;simp only [yI,Bool.and_eq_true] at h;have h0:=Ce h.1.1;have h1:=eq_of_beq h.1.2;have h2:=(b9 PW _ _).1 h.2;cases a;cases b
  simp only at h0 h1 h2;subst h0 h1 h2;rfl
 ·rintro rfl;have g2:=(b9 PW a.values a.values).2 rfl;simp [yI, *]
def Aq (a b:iU):Bool:=(a.key.toList == b.key.toList)&&(a.value.toList == b.value.toList)&&(a.an == b.an)
theorem Xx (a b:iU):Aq a b = true↔a = b:=by
 constructor
 ·intro h;simp only [Aq,Bool.and_eq_true] at h;have h0:=Ce h.1.1;have h1:=Ce h.1.2;exact Bu
 ·rintro rfl;simp [Aq, *]
def oP (a b:bH):Bool:=(a.key.toList == b.key.toList)&&(a.equal == b.equal)&&(a.value.toList == b.value.toList)&&(a.an == b.an)
theorem WC (a b:bH):oP a b = true↔a = b:=by
 constructor
 ·intro h;simp only [oP,Bool.and_eq_true] at h;have h0:=Ce h.1.1.1;have h1:=eq_of_beq h.1.1.2;have h2:=Ce h.1.2;have h3:=eq_of_beq h.2;cases a;cases b
  simp only at h0 h1 h2 h3;subst h0 h1 h2 h3;rfl
 ·rintro rfl;simp [oP, *]
def vF (a b:nI):Bool:=(a.name.toList == b.name.toList)&&same vZ a.labels b.labels&&(a.aw == b.aw)&&(a.mem == b.mem)&&(a.av == b.av)&&same yI a.ai b.ai&&same oP a.ae b.ae
theorem yh (a b:nI):vF a b = true↔a = b:=by
 constructor
 ·intro h;simp only [vF,Bool.and_eq_true] at h;have h0:=Ce h.1.1.1.1.1.1;have h1:=(b9 J8 _ _).1 h.1.1.1.1.1.2;have h2:=eq_of_beq h.1.1.1.1.2;have h3:=eq_of_beq h.1.1.1.2;have h4:=eq_of_beq h.1.1.2;have h5:=(b9 Sh _ _).1 h.1.2;have h6:=(b9 WC _ _).1 h.2;cases a;cases b
  simp only at h0 h1 h2 h3 h4 h5 h6;subst h0 h1 h2 h3 h4 h5 h6;rfl
 ·rintro rfl;have g1:=(b9 J8 a.labels a.labels).2 rfl;have g5:=(b9 Sh a.ai a.ai).2 rfl;have g6:=(b9 WC a.ae a.ae).2 rfl;simp [vF, *]
def ou (a b:ba):Bool:=(a.name.toList == b.name.toList)&&same vZ a.labels b.labels&&(a.aw == b.aw)&&(a.mem == b.mem)&&(a.aq == b.aq)&&same Aq a.aT b.aT
theorem LW (a b:ba):ou a b = true↔a = b:=by
 constructor
 ·intro h;simp only [ou,Bool.and_eq_true] at h;have h0:=Ce h.1.1.1.1.1;have h1:=(b9 J8 _ _).1 h.1.1.1.1.2;have h2:=eq_of_beq h.1.1.1.2;have h3:=eq_of_beq h.1.1.2;have h4:=eq_of_beq h.1.2;have h5:=(b9 Xx _ _).1 h.2;cases a;cases b
  simp only at h0 h1 h2 h3 h4 h5;subst h0 h1 h2 h3 h4 h5;rfl
 ·rintro rfl;have g1:=(b9 J8 a.labels a.labels).2 rfl;have g5:=(b9 Xx a.aT a.aT).2 rfl;simp [ou, *]
def vN (a b:rZ):Bool:=(a.pack == b.pack)&&(a.af == b.af)&&(a.al == b.al)
theorem Zq (a b:rZ):vN a b = true↔a = b:=by
 constructor
 ·intro h;simp only [vN,Bool.and_eq_true] at h;have h0:=eq_of_beq h.1.1;have h1:=eq_of_beq h.1.2;exact Bu
 ·rintro rfl;simp [vN, *]
def lX (a b:ag):Bool:=vF a.aS b.aS&&(a.on.toList == b.on.toList)&&(a.seq == b.seq)
theorem Y0 (a b:ag):lX a b = true↔a = b:=by
 constructor
 ·intro h;simp only [lX,Bool.and_eq_true] at h;have h0:=(yh _ _).1 h.1.1;have h1:=Ce h.1.2;exact Bu
 ·rintro rfl;have g0:=(yh a.aS a.aS).2 rfl;simp [lX, *]
def lT (a b:aU):Bool:=same ou a.aa b.aa&&same lX a.J b.J&&(a.next == b.next)&&vN a.weights b.weights
theorem jI (a b:aU):lT a b = true↔a = b:=by
 constructor
 ·intro h;simp only [lT,Bool.and_eq_true] at h;have h0:=(b9 LW _ _).1 h.1.1.1;have h1:=(b9 Y0 _ _).1 h.1.1.2;have h2:=eq_of_beq h.1.2;have h3:=(Zq _ _).1 h.2;cases a;cases b
  simp only at h0 h1 h2 h3;subst h0 h1 h2 h3;rfl
 ·rintro rfl;have g0:=(b9 LW a.aa a.aa).2 rfl;have g1:=(b9 Y0 a.J a.J).2 rfl;have g3:=(Zq a.weights a.weights).2 rfl;simp [lT, *]
def pK {α:Type} (p:α→Bool):List α→Int
 | []=>-1
 | x :: xs=>if p x then 0 else if pK p xs < 0 then -1 else pK p xs+1
theorem F5 {α:Type} {p:α→Bool} : ∀{xs:List α},(∀x∈xs,p x = false)→pK p xs = -1
 | [],_=>rfl
 | x :: xs,h=>by
   have h1:=h x (List.mem_cons_self ..);have h2:=F5 (xs:=xs) fun y hy=>h y (List.mem_cons_of_mem _ hy);simp [pK,h1,h2]
theorem Fj {α:Type} {p:α→Bool} : ∀{xs:List α} {k:Nat} (hk:k < xs.length),(∀x∈xs.take k,p x = false)→p xs[k] = true→pK p xs = k
 | x :: xs,0,_,_,h=>by simp at h;simp [pK,h]
 | x :: xs,k+1,hk,hb,h=>by
   have h1:=hb x S';have h2:=Fj (xs:=xs) (k:=k) L7 (fun y hy=>hb y (by simp [hy])) RM;simp only [pK,h1,h2];rw [if_neg S',if_neg O];omega
theorem yQ {α:Type} {p:α→Bool} {xs:List α} {k:Nat} (hk:k < xs.length) (h:∀x∈xs.take k,p x = false) (hx:p xs[k] = false):∀x∈xs.take (k+1),p x = false:=by
 rw [List.take_succ_eq_append_getElem hk];intro x hm;rcases List.mem_append.1 hm with hm | hm
 ·exact h x hm
 ·simp at hm;subst hm;exact hx
theorem Nc {α:Type} {p:α→Bool} : ∀(xs:List α),-1≤pK p xs∧pK p xs < xs.length
 | []=>by simp [pK]
 | x :: xs=>by
   have:=Nc (p:=p) xs;simp only [pK,List.length_cons];split
   ·omega
   ·split <;> omega
def iM (nm:ByteArray) (h:ba):Bool:=lf h.name nm
theorem Y1 (x:ba) (cs:List Value) (F:List Nat) (nm:ByteArray) (q:Nat) (w:World) (h:rd w x cs F) (hq:w.cell? ⟨q,0,none⟩ = some (.string nm)) (mi:q < w.heap.size) :
 Calls Tryz.prog 119 #[.agg cs.toArray,.pointer (some ⟨q,0,none⟩)] w fun e w'=>e = .returned (.bool (iM nm x))∧Below w.heap.size w w':=by
 obtain ⟨_,_,_,_,rfl,rfl,⟨rfl,rfl,hname⟩,_,_,_,_,rfl,rfl,dO,_,_,_,_,rfl,rfl,⟨rfl,rfl,vg⟩,_,_,_,_,rfl,rfl,⟨rfl,rfl,cE⟩,_,_,_,_,rfl,rfl,⟨rfl,rfl,uI⟩,jq⟩:=h;obtain ⟨gu,gy,rfl,dO⟩:=jB dO;obtain ⟨kJ,kK,rfl,jq⟩:=jB jq;replace hname:=rV (s:=x.name) hname;replace dO:Sl _ x.labels gu gy _:=dO;replace vg:bv x.aw:=vg;replace cE:bv x.mem:=cE;replace uI:bv x.aq:=uI;replace jq:Sl _ x.aT kJ kK _:=jq;simp only [List.cons_append,List.nil_append];go_enter Tryz.func119,Tryz.ntmps119;go_wp2;go_ret
 exact ⟨rfl,ak (aj _) _⟩
theorem ajq (xs:List ba) (A:Option Addr) (c:Nat) (F:List Nat) (nm:ByteArray) (q:Nat) (w:World) (h:Sl w xs A c F) (hq:w.cell? ⟨q,0,none⟩ = some (.string nm)) (mi:q < w.heap.size) (hl:(xs.length:Int)≤1048576) :
 Calls Tryz.prog 118 #[.slice A xs.length c,.func (.func 119) #[] #[.pointer (some ⟨q,0,none⟩)]] w fun e w'=>e = .returned (.int .i64 (pK (iM nm) xs))∧Below w.heap.size w w':=by
 go_enter Tryz.func118,Tryz.ntmps118;go_wp2;go_loopw [5,8] (fun _ i wr=>∃k:Nat,k≤xs.length∧i = .int .i64 k∧Hid (∀x∈xs.take k,iM nm x = false)∧Below w.heap.size w wr) (fun _ i _=>xs.length - (intOf i).toNat)
 case atStart=>exact ⟨0,Nat.zero_le _,rfl,by show ∀_,_;simp,aj _⟩
 case round =>
  obtain ⟨k,hk,rfl,Hn,az⟩:=hrel;by_cases ap:k < xs.length
  ·obtain ⟨b,o,ck,Fk,rfl,o9,hbs,hr,br,hc⟩:=(h.ext az).get ap;obtain ⟨gu,gy,jw,kJ,kK,qU,ax,rfl,hname,dO,vg,cE,uI,jq⟩:=iy hr;subst ax;obtain ⟨q0,q1,q2,q3,q4,q5⟩:=lb 6 hc;clear hc;have Me:wr.cell? ⟨q,0,none⟩ = some (.string nm):=(by rw [← hq];exact az.cell (p:=⟨q,0,none⟩) mi);have xY:q < wr.heap.size:=Nat.lt_of_lt_of_le mi az.size;cases hp:iM nm xs[k] with
   | false =>
     have HP:=I hp;clear hp;go_wp2_with (go_at_call 119;refine (Y1 xs[k] _ _ nm q _ hr Me xY).mono ?_;rw [HP.out];rintro e w2 ⟨rfl,ao⟩)
     exact ⟨⟨k+1,O,N',yQ ap Hn.out HP.out,ah az ao⟩,by simp [intOf];omega⟩
   | true =>
     have HP:=I hp;clear hp;have HI:=I (Fj ap Hn.out HP.out);go_wp2_with (go_at_call 119;refine (Y1 xs[k] _ _ nm q _ hr Me xY).mono ?_;rw [HP.out];rintro e w2 ⟨rfl,ao⟩)
     go_ret
     exact ⟨by rw [HI.out];rfl,ah az ao⟩
  ·exact Kd
theorem gK (x:aU) (cs:List Value) (F:List Nat) (nm:ByteArray) (w:World) (h:rd w x cs F) (hl:(x.aa.length:Int)≤1048576) :
 Calls Tryz.prog 71 #[.agg cs.toArray,.string nm] w fun e w'=>e = .returned (.int .i64 (pK (iM nm) x.aa))∧Below w.heap.size w w':=by
 obtain ⟨_,_,_,_,rfl,rfl,bQ,_,_,_,_,rfl,rfl,dM,_,_,_,_,rfl,rfl,⟨rfl,rfl,hnext⟩,xM⟩:=h;obtain ⟨bG,bD,rfl,bQ⟩:=jB bQ;obtain ⟨dn,bW,rfl,dM⟩:=jB dM;have uJ:=xM;obtain ⟨rfl,rfl,aV,aP,aW⟩:=mg xM;replace bQ:Sl _ x.aa bG bD _:=bQ;replace dM:Sl _ x.J dn bW _:=dM;replace hnext:bv x.next:=hnext;replace aV:bv x.weights.pack:=aV;replace aP:bv x.weights.af:=aP;replace aW:bv x.weights.al:=aW;replace uJ:rd _ x.weights [.int .i64 x.weights.pack,.int .i64 x.weights.af,.int .i64 x.weights.al] _:=uJ;simp only [List.cons_append,List.nil_append];go_enter Tryz.func71,Tryz.ntmps71;go_wp2_with (go_at_call 118;refine (ajq x.aa _ _ _ nm _ _ (bQ.ext bu) S' S' hl).mono ?_;rintro e w2 ⟨rfl,ao⟩)
 go_ret
 exact ⟨rfl,bu⟩
theorem gQ (x:aU) (cs:List Value) (F:List Nat) (nm:ByteArray) (w:World) (h:rd w x cs F) (hl:(x.aa.length:Int)≤1048576) :
 Calls Tryz.prog 55 #[.agg cs.toArray,.string nm] w fun e w'=>e = .returned (.int .i64 (pK (iM nm) x.aa))∧Below w.heap.size w w':=by
 obtain ⟨_,_,_,_,rfl,rfl,bQ,_,_,_,_,rfl,rfl,dM,_,_,_,_,rfl,rfl,⟨rfl,rfl,hnext⟩,xM⟩:=h;obtain ⟨bG,bD,rfl,bQ⟩:=jB bQ;obtain ⟨dn,bW,rfl,dM⟩:=jB dM;have uJ:=xM;obtain ⟨rfl,rfl,aV,aP,aW⟩:=mg xM;replace bQ:Sl _ x.aa bG bD _:=bQ;replace dM:Sl _ x.J dn bW _:=dM;replace hnext:bv x.next:=hnext;replace aV:bv x.weights.pack:=aV;replace aP:bv x.weights.af:=aP;replace aW:bv x.weights.al:=aW;replace uJ:rd _ x.weights [.int .i64 x.weights.pack,.int .i64 x.weights.af,.int .i64 x.weights.al] _:=uJ;simp only [List.cons_append,List.nil_append];go_enter Tryz.func55,Tryz.ntmps55;go_wp2;go_loop [5] (fun i=>∃k:Nat,k≤x.aa.length∧i = .int .i64 k∧Hid (∀y∈x.aa.take k,iM nm y = false)) (fun i=>x.aa.length - (intOf i).toNat)
 case atStart=>exact ⟨0,Nat.zero_le _,rfl,by show ∀_,_;simp⟩
 case round =>
  obtain ⟨k,hk,rfl,Hn⟩:=hrel;by_cases ap:k < x.aa.length
  ·obtain ⟨b,o,ck,Fk,rfl,o9,hbs,hr,br,hc⟩:=bQ.get ap;obtain ⟨dU,dV,Ba,kY,kZ,NR,ax,rfl,hname1,jr,IQ,IU,KD,yO⟩:=iy hr;subst ax;obtain ⟨q0,q1,q2,q3,q4,q5⟩:=lb 6 hc;clear hc;have cA:b≠w.heap.size:=Nat.ne_of_lt hbs;cases hp:iM nm x.aa[k] with
   | false =>have HP:=I hp;have Mf:(x.aa[k].name.toList == nm.toList) = false:=hp;clear hp;go_wp2;exact ⟨⟨k+1,O,N',yQ ap Hn.out HP.out⟩,by simp [intOf];omega⟩
   | true =>have HP:=I hp;have Mf:(x.aa[k].name.toList == nm.toList) = true:=hp;exact K1
  ·have bz:k = x.aa.length:=O;exact Kt
def CG (nm:ByteArray) (h:ag):Bool:=lf h.aS.name nm
theorem Y9 (x:ag) (cs:List Value) (F:List Nat) (nm:ByteArray) (q:Nat) (w:World) (h:rd w x cs F) (hq:w.cell? ⟨q,0,none⟩ = some (.string nm)) (mi:q < w.heap.size) :
 Calls Tryz.prog 104 #[.agg cs.toArray,.pointer (some ⟨q,0,none⟩)] w fun e w'=>e = .returned (.bool (CG nm x))∧Below w.heap.size w w':=by
 obtain ⟨_,_,_,_,rfl,rfl,WT,_,_,_,_,rfl,rfl,⟨rfl,rfl,ed⟩,⟨rfl,rfl,hseq⟩⟩:=h;have kG:=WT;obtain ⟨gV,gW,lF,iR,iT,mV,dD,dF,iH,rfl,rfl,nY,iE,rF,rG,oZ,je,dN⟩:=dL WT;replace nY:=rV (s:=x.aS.name) nY;replace iE:Sl _ x.aS.labels gV gW _:=iE;replace rF:bv x.aS.aw:=rF;replace rG:bv x.aS.mem:=rG;replace oZ:bv x.aS.av:=oZ;replace je:Sl _ x.aS.ai iR iT _:=je;replace dN:Sl _ x.aS.ae dD dF _:=dN;replace ed:=rV (s:=x.on) ed;replace hseq:bv x.seq:=hseq;replace kG:rd _ x.aS [.string x.aS.name,.slice gV x.aS.labels.length gW,.int .i64 x.aS.aw,.int .i64 x.aS.mem,.int .i64 x.aS.av,.slice iR x.aS.ai.length iT,.slice dD x.aS.ae.length dF] _:=kG;simp only [List.cons_append,List.nil_append];go_enter Tryz.func104,Tryz.ntmps104;go_wp2;go_ret
 exact ⟨rfl,ak (aj _) _⟩
theorem alG (xs:List ag) (A:Option Addr) (c:Nat) (F:List Nat) (nm:ByteArray) (q:Nat) (w:World) (h:Sl w xs A c F) (hq:w.cell? ⟨q,0,none⟩ = some (.string nm)) (mi:q < w.heap.size) (hl:(xs.length:Int)≤1048576) :
 Calls Tryz.prog 103 #[.slice A xs.length c,.func (.func 104) #[] #[.pointer (some ⟨q,0,none⟩)]] w fun e w'=>e = .returned (.int .i64 (pK (CG nm) xs))∧Below w.heap.size w w':=by
 go_enter Tryz.func103,Tryz.ntmps103;go_wp2;go_loopw [5,8] (fun _ i wr=>∃k:Nat,k≤xs.length∧i = .int .i64 k∧Hid (∀x∈xs.take k,CG nm x = false)∧Below w.heap.size w wr) (fun _ i _=>xs.length - (intOf i).toNat)
 case atStart=>exact ⟨0,Nat.zero_le _,rfl,by show ∀_,_;simp,aj _⟩
 case round =>
  obtain ⟨k,hk,rfl,Hn,az⟩:=hrel;by_cases ap:k < xs.length
  ·obtain ⟨b,o,ck,Fk,rfl,o9,hbs,hr,br,hc⟩:=(h.ext az).get ap;obtain ⟨gV,gW,lF,iR,iT,mV,dD,dF,iH,ax,rfl,nY,iE,rF,rG,oZ,je,dN,ed,hseq⟩:=kE hr;subst ax;obtain ⟨q0,q1,q2,q3,q4,q5,q6,q7,q8⟩:=om 9 hc;clear hc;have Me:wr.cell? ⟨q,0,none⟩ = some (.string nm):=(by rw [← hq];exact az.cell (p:=⟨q,0,none⟩) mi);have xY:q < wr.heap.size:=Nat.lt_of_lt_of_le mi az.size;cases hp:CG nm xs[k] with
   | false =>
     have HP:=I hp;clear hp;go_wp2_with (go_at_call 104;refine (Y9 xs[k] _ _ nm q _ hr Me xY).mono ?_;rw [HP.out];rintro e w2 ⟨rfl,ao⟩)
     exact ⟨⟨k+1,O,N',yQ ap Hn.out HP.out,ah az ao⟩,by simp [intOf];omega⟩
   | true =>
     have HP:=I hp;clear hp;have HI:=I (Fj ap Hn.out HP.out);go_wp2_with (go_at_call 104;refine (Y9 xs[k] _ _ nm q _ hr Me xY).mono ?_;rw [HP.out];rintro e w2 ⟨rfl,ao⟩)
     go_ret
     exact ⟨by rw [HI.out];rfl,ah az ao⟩
  ·exact Kd
theorem UZ (x:aU) (cs:List Value) (F:List Nat) (nm:ByteArray) (w:World) (h:rd w x cs F) (hl:(x.J.length:Int)≤1048576) :
 Calls Tryz.prog 62 #[.agg cs.toArray,.string nm] w fun e w'=>e = .returned (.int .i64 (pK (CG nm) x.J))∧Below w.heap.size w w':=by
 obtain ⟨_,_,_,_,rfl,rfl,bQ,_,_,_,_,rfl,rfl,dM,_,_,_,_,rfl,rfl,⟨rfl,rfl,hnext⟩,xM⟩:=h;obtain ⟨bG,bD,rfl,bQ⟩:=jB bQ;obtain ⟨dn,bW,rfl,dM⟩:=jB dM;have uJ:=xM;obtain ⟨rfl,rfl,aV,aP,aW⟩:=mg xM;replace bQ:Sl _ x.aa bG bD _:=bQ;replace dM:Sl _ x.J dn bW _:=dM;replace hnext:bv x.next:=hnext;replace aV:bv x.weights.pack:=aV;replace aP:bv x.weights.af:=aP;replace aW:bv x.weights.al:=aW;replace uJ:rd _ x.weights [.int .i64 x.weights.pack,.int .i64 x.weights.af,.int .i64 x.weights.al] _:=uJ;simp only [List.cons_append,List.nil_append];go_enter Tryz.func62,Tryz.ntmps62;go_wp2_with (go_at_call 103;refine (alG x.J _ _ _ nm _ _ (dM.ext bu) S' S' hl).mono ?_;rintro e w2 ⟨rfl,ao⟩)
 go_ret
 exact ⟨rfl,bu⟩
theorem uN (x:aU) (cs:List Value) (F:List Nat) (nm:ByteArray) (w:World) (h:rd w x cs F) (hl:(x.J.length:Int)≤1048576) :
 Calls Tryz.prog 23 #[.agg cs.toArray,.string nm] w fun e w'=>e = .returned (.int .i64 (pK (CG nm) x.J))∧Below w.heap.size w w':=by
 obtain ⟨_,_,_,_,rfl,rfl,bQ,_,_,_,_,rfl,rfl,dM,_,_,_,_,rfl,rfl,⟨rfl,rfl,hnext⟩,xM⟩:=h;obtain ⟨bG,bD,rfl,bQ⟩:=jB bQ;obtain ⟨dn,bW,rfl,dM⟩:=jB dM;have uJ:=xM;obtain ⟨rfl,rfl,aV,aP,aW⟩:=mg xM;replace bQ:Sl _ x.aa bG bD _:=bQ;replace dM:Sl _ x.J dn bW _:=dM;replace hnext:bv x.next:=hnext;replace aV:bv x.weights.pack:=aV;replace aP:bv x.weights.af:=aP;replace aW:bv x.weights.al:=aW;replace uJ:rd _ x.weights [.int .i64 x.weights.pack,.int .i64 x.weights.af,.int .i64 x.weights.al] _:=uJ;simp only [List.cons_append,List.nil_append];go_enter Tryz.func23,Tryz.ntmps23;go_wp2;go_loop [5] (fun i=>∃k:Nat,k≤x.J.length∧i = .int .i64 k∧Hid (∀y∈x.J.take k,CG nm y = false)) (fun i=>x.J.length - (intOf i).toNat)
 case atStart=>exact ⟨0,Nat.zero_le _,rfl,by show ∀_,_;simp⟩
 case round =>
  obtain ⟨k,hk,rfl,Hn⟩:=hrel;by_cases ap:k < x.J.length
  ·obtain ⟨b,o,ck,Fk,rfl,o9,hbs,hr,br,hc⟩:=dM.get ap;obtain ⟨pO,pR,EY,rH,rJ,He,kT,kU,yu,ax,rfl,Dq,yw,FW,FX,Dt,Az,qH,anH,afa⟩:=kE hr;subst ax;obtain ⟨q0,q1,q2,q3,q4,q5,q6,q7,q8⟩:=om 9 hc;clear hc;have cA:b≠w.heap.size:=Nat.ne_of_lt hbs;cases hp:CG nm x.J[k] with
   | false =>have HP:=I hp;have Mf:(x.J[k].aS.name.toList == nm.toList) = false:=hp;clear hp;go_wp2;exact ⟨⟨k+1,O,N',yQ ap Hn.out HP.out⟩,by simp [intOf];omega⟩
   | true =>have HP:=I hp;have Mf:(x.J[k].aS.name.toList == nm.toList) = true:=hp;exact K1
  ·have bz:k = x.J.length:=O;exact Kt
end Go.Proofs.YtjahcnjmjahbaaaGreat
