/- An operation as data. No condition. -/
import Derived.Test.YtjahcnjmjahbaaaGreatWords
namespace Go.Proofs.YtjahcnjmjahbaaaGreat
open Go.ChangeShapes Go.WideShapes Go.ChangeAt Go.RowKit
set_option linter.unusedVariables false
set_option linter.unusedSimpArgs false
set_option maxHeartbeats 1000000
set_option maxRecDepth 100000
structure Cl where
 kind:Int
 name:ByteArray
 tf:cB
 weights:rZ
instance:bd Cl:=bd.oc fun x=>(x.kind,x.name,x.tf,x.weights)
def kL {α:Type} (f:α→Nat) (xs:List α):Nat:=xs.length+(xs.map f).sum
abbrev D4 (xs:List ByteArray):Nat:=kL ByteArray.size xs
def nH {α:Type} (f:α→Nat) (xs:List α):Nat:=(xs.map f).sum
theorem Bq {α:Type} {f:α→Nat} {xs:List α} {x:α} (h:x∈xs):f x≤kL f xs:=by
 unfold kL;induction xs with
 | nil=>cases h
 | cons y ys ih =>
   rcases List.mem_cons.1 h with rfl | h
   ·simp;omega
   ·have:=ih h;simp at this ⊢;omega
theorem rM {α:Type} {f:α→Nat} {xs:List α} {k:Nat} (h:k < xs.length):f xs[k]≤kL f xs:=Bq (List.getElem_mem h)
theorem gJ {α:Type} (f:α→Nat) (xs:List α):xs.length≤kL f xs:=by unfold kL;omega
def ao.wt (x:ao):Nat:=x.key.size+x.value.size
def ba.wt (x:ba):Nat:=x.key.size+D4 x.values
def iU.wt (x:iU):Nat:=x.key.size+x.value.size
def bH.wt (x:bH):Nat:=x.key.size+x.value.size
def nI.wt (x:nI):Nat:=x.name.size+kL ao.wt x.labels+kL ba.wt x.ag+kL bH.wt x.ae
def az.wt (x:az):Nat:=x.name.size+kL ao.wt x.labels+kL iU.wt x.aT
def ai.wt (x:ai):Nat:=x.aS.wt+x.on.size
def aU.wt (x:aU):Nat:=kL az.wt x.Z+kL ai.wt x.O
def cB.wt (x:cB):Nat:=x.aS.wt+x.bt.wt
def tV.wt (x:tV):Nat:=x.path.size
def rT (P:Program) (t:TypeId) (α:Type) [bd α]:Prop:=∀(H:Type) (enc:TypeId × Value→H) (w:World) (base fe:Nat) (spare:Nat→Bool) (held:Bool) (cs:List Value) (d:DataW H × List MemPlace),
 DataW.trod enc P w base spare held fe t cs = some d→∃(x:α) (F:List Nat),rd w x cs F
theorem yH {P:Program} {t e:TypeId} {α:Type} [bd α] (ht:P.underlying t = some (.slice e)) (hC:P.cellsOf e = bd.size α) (h:rT P e α):rT P t (List α):=by
 intro H enc w base fe spare held cs d hd;rcases Deep.open_slice ht hd with ⟨rfl,_⟩ | ⟨a,len,aL,m,n,D,Pl,rfl,hb,hl,hm,hmm,hx,hi⟩
 ·exact ⟨[],[],Sl.nil w none 0 (Nat.zero_le _)⟩
 ·rcases Nat.eq_zero_or_pos len with rfl | hpos
  ·exact ⟨[],[],Sl.nil w (some a) aL hm⟩
  ·have hlm:len≤m:=(by rw [hmm];split <;> omega);have hpos':=bd.pos (α:=α);have iu:a.spot = none∧a.block < w.heap.size:=by
    obtain ⟨Uk,hc,_⟩:=hi 0 J;obtain ⟨_,oy,cI⟩:=World.cells?_some hc;have h0:=cI (i:=0) J;simp only [Nat.zero_mul] at h0;have e0:(a.add 0).add 0 = a:=(by simp [Addr.add]);rw [e0] at h0;rw [List.getElem?_eq_getElem J] at h0;refine ⟨?_,World.block_lt_of_cell? w a h0⟩;unfold World.cell? at h0;split at h0
    ·split at h0
     ·cases h0
     ·rename_i hs;simpa using hs
    ·cases h0
   obtain ⟨b,o,sp⟩:=a;obtain ⟨rfl,hblt⟩:=iu;have step:∀k,k≤len→∃(xs:List α) (ds:List Value) (G:List Nat),xs.length = k∧jo w xs ds G∧∀j u,ds[j]? = some u→w.cell? ⟨b,o+j,none⟩ = some u:=by
    intro k;induction k with
    | zero=>exact fun _=>⟨[],[],[],rfl,⟨rfl,rfl⟩,fun j u hu=>by simp at hu⟩
    | succ k ih =>
      intro hk;obtain ⟨xs,ds,G,kv,hr,hc⟩:=ih J;obtain ⟨Uk,cT,htr⟩:=hi k J;obtain ⟨x,F,hxr⟩:=h H enc w base n spare held Uk _ htr;obtain ⟨_,oy,cI⟩:=World.cells?_some cT;refine ⟨xs++[x],ds++Uk,G++F,by simp [kv],hr.append (.single hxr),fun j u hu=>?_⟩;have fY:=hr.len;rw [kv] at fY;by_cases hj:j < ds.length
      ·exact hc j u (by rwa [List.getElem?_append_left hj] at hu)
      ·rw [List.getElem?_append_right J] at hu;have Z4:=(List.getElem?_eq_some_iff.1 hu).1;have h1:=cI (i:=j - ds.length) J;rw [hu,hC] at h1;have e1:((⟨b,o,none⟩:Addr).add (k * bd.size α)).add (j - ds.length) = ⟨b,o+j,none⟩:=by
        rw [Deep.add_add];unfold Addr.add;split
        ·simp <;> omega
        ·simp <;> omega
       rw [e1] at h1;exact h1
   obtain ⟨xs,ds,G,kv,hr,hc⟩:=step len (Nat.le_refl _);subst kv;exact ⟨xs,b :: G,_,aL,G,ds,rfl,hl,hm,hr,.inr ⟨b,o,rfl,rfl,hblt,hc⟩⟩
def cH (l:List Oper):List Nat→List Oper
 | []=>[]
 | j :: js=>match l[j]? with | some o=>o :: cH l js | none=>cH l js
section
variable {P:Program} {ops:Array Oper} {md:Region.Mode} {C:World→Prop} {Q:Exit→Act→World→Prop}
def zY:List Nat→Array Bool→Array Bool
 | [],l=>l
 | k :: ks,l=>zY ks (l.setIfInBounds k true)
def VH (md:Region.Mode) (ops:Array Oper):List Nat→Array Bool→Bool
 | [],_=>true
 | k :: ks,aq=>Region.free md ops aq k&&(Region.ready md ops aq).contains k&&VH md ops ks (aq.setIfInBounds k true)
def VI (md:Region.Mode) (ops:Array Oper):List Nat→Array Bool→Bool
 | [],aq=>(Region.ready md ops aq).isEmpty
 | k :: ks,aq=>decide (Region.ready md ops aq = [k])&&VI md ops ks (aq.setIfInBounds k true)
theorem ZS:∀(l:List Oper) (ks:List Nat) (aq:Array Bool) (a:Act) (w:World),l.toArray = ops→VI md ops ks aq = true→ED P ops C Q (cH l ks) a w→wpAnyH P md ops Q C ks.length aq a w
 | l,[],aq,a,w,hl,hB,h=>by
   simp only [VI,List.isEmpty_iff] at hB;exact ⟨hB,h⟩
 | l,k :: ks,aq,a,w,hl,hB,h=>by
   simp only [VI,Bool.and_eq_true,decide_eq_true_eq] at hB;obtain ⟨_,o,ho,_⟩:=mem_ready.1 (show k∈Region.ready md ops aq by rw [hB.1];simp);have uF:l[k]? = some o:=(by rw [← hl] at ho;simpa using ho);simp only [cH,uF] at h;refine wpAnyH_all hB.1 S' fun i hi=>?_;obtain rfl:i = k:=by simpa using hi
   unfold wpOp;simp only [ho];unfold ED at h;have next:∀a' w',C w'∧ED P ops C Q (cH l ks) a' w'→C w'∧wpAnyH P md ops Q C ks.length (aq.setIfInBounds i true) a' w':=fun a' w' hh =>
    ⟨hh.1,ZS l ks _ a' w' hl hB.2 hh.2⟩
   exact Jd
theorem ZM (hs:Region.noSelect ops = true) (hQ:∀c a d v w,Q (.panic c) (Act.put a d v) w→Q (.panic c) a w) {w:World} (hC:C w):∀(l:List Oper) (js:List Nat) (g:Nat) (aq:Array Bool) (a:Act),l.toArray = ops →
 VH md ops js aq = true→OQ P ops C (fun a'=>wpAnyH P md ops Q C g (zY js aq) a' w) (cH l js) a→wpAnyH P md ops Q C (g+js.length) aq a w
 | l,[],g,aq,a,hl,hB,h=>h
 | l,k :: js,g,aq,a,hl,hB,h=>by
   simp only [VH,Bool.and_eq_true] at hB;obtain ⟨_,o,ho,_⟩:=mem_ready.1 (show k∈Region.ready md ops aq by simpa using hB.1.2);have uF:l[k]? = some o:=(by rw [← hl] at ho;simpa using ho);simp only [cH,uF] at h;obtain ⟨v,hy,hn⟩:=h;refine wpAnyH_take ho hs hB.1.1 hB.1.2 (fun c a' w'=>hQ c a' _ v w') hy hC ?_;exact ZM hs hQ hC l js g _ _ hl hB.2 hn
def ZT (ops:Array Oper) (js ks:List Nat):Bool:=Region.noSelect ops&&decide (ks.length+js.length = ops.size)&&VH .any ops js (Array.replicate ops.size false)&&VI .any ops ks (zY js (Array.replicate ops.size false))
theorem nS {id:Nat} {a:Act} {w:World} {l:List Oper} (w0:World) (js ks:List Nat) (hm:P.follows .mixedOrders = true) (hB:ZT l.toArray js ks = true) (hQ:∀c a d v w,Q (.panic c) (Act.put a d v) w→Q (.panic c) a w)
 (hw:Below w0.heap.size w0 w) (h:OQ P l.toArray (gY w0) (fun a'=>ED P l.toArray (gY w0) Q (cH l ks) a' w.drew) (cH l js) a):(Code.region id l.toArray true).wp P Q a w:=by
 simp only [ZT,Bool.and_eq_true,decide_eq_true_eq] at hB;obtain ⟨⟨⟨hs,hn⟩,hh⟩,hq⟩:=hB;have hC:gY w0 w.drew:=aA hw;refine wp_region_held_drew (S:=gY w0) hm hC fun _=>?_
 have mono:∀(m:List Oper) (b:Act),OQ P l.toArray (gY w0) (fun a'=>ED P l.toArray (gY w0) Q (cH l ks) a' w.drew) m b →
     OQ P l.toArray (gY w0) (fun a'=>wpAnyH P .any l.toArray Q (gY w0) ks.length (zY js (Array.replicate l.toArray.size false)) a' w.drew) m b:=by
  intro m;induction m with
  | nil=>intro b hb;exact ZS (md:=.any) l ks _ b w.drew rfl hq hb
  | cons o m ih =>intro b ⟨v,hy,hb⟩;exact ⟨v,hy,ih _ hb⟩
 have:=ZM (md:=.any) (P:=P) (C:=gY w0) hs hQ hC l js ks.length (Array.replicate l.toArray.size false) a rfl hh (mono _ _ h);rw [hn] at this;exact this
end
def uK (o:ByteArray) (c:UInt8) (k:Nat):Bool:=GL c.toNat || (o.data.toList.take k).contains c
theorem apb (o:ByteArray) (c:UInt8):uK o c 0 = GL c.toNat:=by simp [uK]
theorem apc (o:ByteArray) (c:UInt8):uK o c o.size = nk o c:=by
 unfold uK nk;rw [List.take_of_length_le (by rw [Array.length_toList];exact Nat.le_refl _)]
theorem apd {o:ByteArray} {c:UInt8} {k:Nat} (hk:k < o.size):uK o c (k+1) = (uK o c k || ((c.toNat:Int) == (o[k].toNat:Int))):=by
 have oY:k < o.data.toList.length:=by simpa using hk
 unfold uK;rw [List.take_succ_eq_append_getElem oY,List.contains_eq_any_beq,List.contains_eq_any_beq,List.any_append,Bool.or_assoc];congr 2;simp only [List.any_cons,List.any_nil,Bool.or_false,Array.getElem_toList];rw [Bool.eq_iff_iff,beq_iff_eq,beq_iff_eq,ByteArray.getElem_eq_getElem_data];constructor
 ·intro h;rw [← h]
 ·intro h;exact UInt8.toNat_inj.1 J
theorem Wu (s o:ByteArray) (w:World) (cE:(s.size:Int)≤1048576) (ho:(o.size:Int)≤1048576):Calls Tryz.prog 171 #[.string s,.string o] w fun e w'=>e = .returned (.bool (GN o s))∧Below w.heap.size w w':=by
 by_cases hs:0 < s.size
 ·have hz:((s.size:Int) == 0) = false:=by rw [beq_eq_false_iff_ne];omega
  cases h1:GL (s[0].toNat:Int) with
  | false =>
    have bm:GN o s = false:=(by unfold GN;rw [DF hs,h1];simp);have HF:=I bm;have H1:=I h1;clear h1 bm;go_enter Tryz.func171,Tryz.ntmps171;go_wp2_with fail
    refine (Gm (s[0].toNat:Int) _).mono ?_;rw [H1.out];exact Jn
  | true =>
    cases h2:GL (s[s.size - 1].toNat:Int) with
    | false =>
      have bm:GN o s = false:=(by unfold GN;rw [DF hs,DF (show s.size - 1 < s.size by omega),h1,h2];simp);have HF:=I bm;have H1:=I h1;have H2:=I h2;clear h1 h2 bm;go_enter Tryz.func171,Tryz.ntmps171;go_wp2_with fail
      refine (Gm (s[0].toNat:Int) _).mono ?_;rw [H1.out];rintro e w2 ⟨rfl,hw⟩;rw [hw];clear hw w2;go_wp2_with fail
      refine (Gm (s[s.size - 1].toNat:Int) _).mono ?_;rw [H2.out];exact Jn
    | true =>
      have bm:GN o s = s.data.toList.all (nk o):=(by unfold GN;rw [DF hs,DF (show s.size - 1 < s.size by omega),h1,h2];simp [hs]);have HF:=I bm;have H1:=I h1;have H2:=I h2;clear h1 h2 bm;go_enter Tryz.func171,Tryz.ntmps171;go_wp2_with fail
      refine (Gm (s[0].toNat:Int) _).mono ?_;rw [H1.out];rintro e w2 ⟨rfl,hw⟩;rw [hw];clear hw w2;go_wp2_with fail
      refine (Gm (s[s.size - 1].toNat:Int) _).mono ?_;rw [H2.out];rintro e w2 ⟨rfl,hw⟩;rw [hw];clear hw w2;go_wp2_with fail
      go_loopw [5] (fun v wr=>∃(k:Nat),k≤s.size∧v = .int .i64 k∧Hid (∀j (hj:j < s.size),j < k→nk o s[j] = true)∧Below w.heap.size w wr) (fun v _=>s.size - (intOf v).toNat)
      case atStart=>exact ⟨0,Nat.zero_le _,rfl,fun j _ hj=>by omega,aj _⟩
      case round =>
       obtain ⟨k,hk,rfl,hall,aE⟩:=hrel;by_cases ap:k < s.size
       ·go_wp2_with fail
        refine (Gm (s[k].toNat:Int) _).mono ?_;rw [← apb o s[k]];rintro e w2 ⟨rfl,hw⟩;rw [hw];clear hw w2;go_wp2_with fail
        go_loopw [6,7] (fun v u wi=>∃(j:Nat),j≤o.size∧u = .int .i64 j∧v = .bool (uK o s[k] j)∧Below w.heap.size w wi) (fun _ u _=>o.size - (intOf u).toNat)
        case atStart=>exact ⟨0,Nat.zero_le _,rfl,rfl,aE⟩
        case round =>
         obtain ⟨j,hj,rfl,rfl,hbi⟩:=hrel;by_cases gC:j < o.size
         ·have HA:=I (apd (c:=s[k]) gC);generalize hb:uK o s[k] j = b at *;cases b
          all_goals
           clear hb;go_wp2_with fail
           refine aF _ U' U' (aj _) ?_
           repeat ((first | refine aG X ?_ | refine aH _ X dC ?_);simp only [Act.put,pz])
           refine aN ?_;intro wn hn;replace hn:=hn.out;go_wp2;exact ⟨⟨j+1,J,N',by rw [HA.out];rfl,ah hbi hn⟩,by simp [intOf];omega⟩
         ·have I6:j = o.size:=J;subst I6;rw [apc];cases gd:nk o s[k] with
          | true =>have HN:=I (X4 ap hall.out gd);clear gd;go_wp2;exact ⟨⟨k+1,J,N',HN.out,hbi⟩,by simp [intOf];omega⟩
          | false =>
            have HG:=I (TM ap gd);clear gd;go_wp2;go_ret
            exact ⟨by rw [HF.out,HG.out];rfl,hbi⟩
       ·have bx:k = s.size:=J;subst bx;have HG:=I (YX (p:=nk o) (fun j hj=>hall.out j hj hj));go_wp2;go_ret
        exact ⟨by rw [HF.out,HG.out];rfl,aE⟩
 ·have hZ:s.size = 0:=by omega
  have bm:GN o s = false:=by unfold GN;simp [hZ]
  have HF:=I bm;clear bm;go_enter Tryz.func171,Tryz.ntmps171;go_wp2;go_ret
  exact ⟨by rw [HF.out];rfl,aj _⟩
def vW:ByteArray:=⟨#[45,95,46,47]⟩
def rj:ByteArray:=⟨#[45,95,46]⟩
def Cm (s:ByteArray):Bool:=decide ((s.size:Int)≤30)&&GN vW s
def AQ (s:ByteArray):Bool:=decide (s.size = 0) || (decide ((s.size:Int)≤20)&&GN rj s)
theorem Ou {o s:ByteArray} (h:¬0 < s.size):GN o s = false:=by unfold GN;simp [h]
theorem Y4 {s:ByteArray} (h:s.size = 0):s = ⟨#[]⟩:=by
 obtain ⟨d⟩:=s;congr 1;exact Array.eq_empty_of_size_eq_zero h
theorem Y3 {s:ByteArray} (h:0 < s.size):(s.toList == []) = false:=by
 rw [beq_eq_false_iff_ne];intro e;rw [ByteArray.toList_eq] at e;have h2:s.data.toList.length = 0:=by rw [e];rfl
 rw [Array.length_toList] at h2;have h3:s.size = s.data.size:=rfl;omega
theorem rX (s:ByteArray) (w:World) (cE:(s.size:Int)≤1048576):Calls Tryz.prog 123 #[.string s] w fun e w'=>e = .returned (.bool (Cm s))∧Below w.heap.size w w':=by
 by_cases hs:0 < s.size
 ·have hz:((s.size:Int) == 0) = false:=by rw [beq_eq_false_iff_ne];omega
  by_cases h30:(s.size:Int)≤30
  ·cases hW:GN vW s
   all_goals
    have bm:Cm s = _:=(by unfold Cm;rw [hW]);simp only [h30,decide_true,Bool.true_and] at bm;have HF:=I bm;have HW:=I hW;clear bm hW;go_enter Tryz.func123,Tryz.ntmps123;go_wp2_with (first | (go_at_call 167;refine (Z9 s vW _ hs J).mono ?_;rw [HW.out];rintro e w2 ⟨rfl,hw⟩;rw [hw];clear hw w2) | go_in)
    go_ret
    exact ⟨by rw [HF.out];rfl,bs⟩
  ·have bm:Cm s = false:=(by unfold Cm;simp [h30]);have HF:=I bm;clear bm;go_enter Tryz.func123,Tryz.ntmps123;exact ej
 ·have bm:Cm s = false:=by unfold Cm;rw [Ou hs];simp
  have HF:=I bm;have hZ:(s.size:Int) = 0:=by omega
  have HW:=I (Ou (o:=vW) hs);clear bm;go_enter Tryz.func123,Tryz.ntmps123;exact ej
theorem xQ (s:ByteArray) (w:World) (cE:(s.size:Int)≤1048576):Calls Tryz.prog 124 #[.string s] w fun e w'=>e = .returned (.bool (AQ s))∧Below w.heap.size w w':=by
 by_cases hs:0 < s.size
 ·have hz:((s.size:Int) == 0) = false:=by rw [beq_eq_false_iff_ne];omega
  have cq:=Y3 hs;have hZ:¬s.size = 0:=by omega
  by_cases h30:(s.size:Int)≤20
  ·cases hW:GN rj s
   all_goals
    have bm:AQ s = _:=(by unfold AQ;rw [hW]);simp only [h30,hZ,decide_true,decide_false,Bool.true_and,Bool.false_or] at bm;have HF:=I bm;have HW:=I hW;clear bm hW;go_enter Tryz.func124,Tryz.ntmps124;go_wp2_with (first | (go_at_call 167;refine (Z9 s rj _ hs J).mono ?_;rw [HW.out];rintro e w2 ⟨rfl,hw⟩;rw [hw];clear hw w2) | go_in)
    go_ret
    exact ⟨by rw [HF.out];rfl,bs⟩
  ·have bm:AQ s = false:=(by unfold AQ;simp [h30,hZ]);have HF:=I bm;clear bm;go_enter Tryz.func124,Tryz.ntmps124;exact ej
 ·obtain rfl:=Y4 (s:=s) J;go_enter Tryz.func124,Tryz.ntmps124;go_wp2;go_ret
  exact ⟨X,bs⟩
theorem qK (s:ByteArray) (w:World) (cE:(s.size:Int)≤1048576):Calls Tryz.prog 136 #[.string s] w fun e w'=>e = .returned (.bool (Cm s))∧Below w.heap.size w w':=by
 by_cases hs:0 < s.size
 ·have hz:((s.size:Int) == 0) = false:=by rw [beq_eq_false_iff_ne];omega
  by_cases h30:(s.size:Int)≤30
  ·cases hW:GN vW s
   all_goals
    have bm:Cm s = _:=(by unfold Cm;rw [hW]);simp only [h30,decide_true,Bool.true_and] at bm;have HF:=I bm;have HW:=I hW;clear bm hW;go_enter Tryz.func136,Tryz.ntmps136;go_wp2_with (first | (go_at_call 171;refine (Wu s vW _ J (by decide)).mono ?_;rw [HW.out];rintro e w2 ⟨rfl,av⟩) | go_in)
    go_ret
    exact ⟨by rw [HF.out];rfl,bs⟩
  ·have bm:Cm s = false:=(by unfold Cm;simp [h30]);have HF:=I bm;clear bm;go_enter Tryz.func136,Tryz.ntmps136;exact ej
 ·have bm:Cm s = false:=by unfold Cm;rw [Ou hs];simp
  have HF:=I bm;have hZ:(s.size:Int) = 0:=by omega
  have HW:=I (Ou (o:=vW) hs);clear bm;go_enter Tryz.func136,Tryz.ntmps136;go_wp2_with (first | (go_at_call 171;refine (Wu s vW _ J (by decide)).mono ?_;rw [HW.out];rintro e w2 ⟨rfl,av⟩) | go_in)
  go_ret
  exact ⟨by rw [HF.out];rfl,bs⟩
theorem vH (s:ByteArray) (w:World) (cE:(s.size:Int)≤1048576):Calls Tryz.prog 137 #[.string s] w fun e w'=>e = .returned (.bool (AQ s))∧Below w.heap.size w w':=by
 by_cases hs:0 < s.size
 ·have hz:((s.size:Int) == 0) = false:=by rw [beq_eq_false_iff_ne];omega
  have cq:=Y3 hs;have hZ:¬s.size = 0:=by omega
  by_cases h30:(s.size:Int)≤20
  ·cases hW:GN rj s
   all_goals
    have bm:AQ s = _:=(by unfold AQ;rw [hW]);simp only [h30,hZ,decide_true,decide_false,Bool.true_and,Bool.false_or] at bm;have HF:=I bm;have HW:=I hW;clear bm hW;go_enter Tryz.func137,Tryz.ntmps137;go_wp2_with (first | (go_at_call 171;refine (Wu s rj _ J (by decide)).mono ?_;rw [HW.out];rintro e w2 ⟨rfl,av⟩) | go_in)
    go_ret
    exact ⟨by rw [HF.out];rfl,bs⟩
  ·have bm:AQ s = false:=(by unfold AQ;simp [h30,hZ]);have HF:=I bm;clear bm;go_enter Tryz.func137,Tryz.ntmps137;exact ej
 ·obtain rfl:=Y4 (s:=s) J;go_enter Tryz.func137,Tryz.ntmps137;go_wp2;go_ret
  exact ⟨X,bs⟩
theorem aJ {α:Type} [bd α] {w w':World} {x:α} {cs:List Value} {F:List Nat} (h:rd w x cs F) (hb:Below w.heap.size w w'):rd w' x cs F :=
 bd.frame h (fun b d9=>hb.block b (bd.lt h b d9)) hb.size
theorem YG {p:Nat→Bool} {n:Nat} (h:∀j,j < n→p j = true):(List.range n).all p = true:=by
 rw [List.all_eq_true];intro x hx;exact h x (List.mem_range.1 hx)
theorem YF {p:Nat→Bool} {n k:Nat} (hk:k < n) (h:p k = false):(List.range n).all p = false:=by
 rw [List.all_eq_false];exact ⟨k,List.mem_range.2 hk,by simp [h]⟩
theorem gq {p:Nat→Bool} {k:Nat} (h:∀j,j < k→p j = true) (hp:p k = true):∀j,j < k+1→p j = true:=fun j hj=>by
 rcases Nat.lt_or_ge j k with h1 | h1
 ·exact h j h1
 ·obtain rfl:j = k:=by omega
  exact hp
def bB {α:Type} (ok:α→Bool) (less:α→α→Bool) (xs:List α) (k:Nat):Bool :=
 match xs[k]? with
 | none=>false
 | some l=>ok l&&(match k with | 0=>true | j+1=>match xs[j]? with | none=>false | some p=>less p l)
theorem bR {α:Type} {ok:α→Bool} {less:α→α→Bool} {xs:List α} (h:0 < xs.length):bB ok less xs 0 = ok xs[0]:=by
 unfold bB;rw [List.getElem?_eq_getElem h];simp
theorem yS {α:Type} {ok:α→Bool} {less:α→α→Bool} {xs:List α} {j:Nat} (h:j+1 < xs.length):bB ok less xs (j+1) = (ok xs[j+1]&&less xs[j] xs[j+1]):=by
 simp only [bB,List.getElem?_eq_getElem h,List.getElem?_eq_getElem (show j < xs.length by omega)]
def lE {α:Type} (ok:α→Bool) (less:α→α→Bool) (most:Int) (xs:List α):Bool:=decide ((xs.length:Int)≤most)&&(List.range xs.length).all (bB ok less xs)
theorem wU {α:Type} {ok:α→Bool} {less:α→α→Bool} {most:Int} {xs:List α} {k:Nat} (hk:k < xs.length) (h:bB ok less xs k = false):lE ok less most xs = false:=by unfold lE;rw [YF hk h];simp
theorem Jz {α:Type} {ok:α→Bool} {less:α→α→Bool} {most:Int} {xs:List α} (h:¬(xs.length:Int)≤most):lE ok less most xs = false:=by unfold lE;simp [h]
theorem Jy {α:Type} {ok:α→Bool} {less:α→α→Bool} {most:Int} {xs:List α} (hl:(xs.length:Int)≤most) (h:∀j,j < xs.length→bB ok less xs j = true):lE ok less most xs = true:=by unfold lE;rw [YG h];simp [hl]
def bl (a b:ByteArray):Bool:=Op.bytesLess a.toList b.toList
def uh (x:ba):Bool:=Cm x.key&&(decide (1≤x.op)&&decide (x.op≤4))&&(if 2 < x.op then decide (x.values.length = 0) else decide (1≤x.values.length)&&lE AQ bl 4 x.values)
theorem aiY {x:ba} (h:Cm x.key = false):uh x = false:=by unfold uh;rw [h];simp
theorem amy {x:ba} (h:¬(1≤x.op∧x.op≤4)):uh x = false:=by
 have:(decide (1≤x.op)&&decide (x.op≤4)) = false:=by rw [← Bool.not_eq_true,Bool.and_eq_true,decide_eq_true_eq,decide_eq_true_eq];exact h
 unfold uh;rw [this];simp
theorem aiZ {x:ba} (hk:Cm x.key = true) (h:1≤x.op∧x.op≤4) (h2:2 < x.op):uh x = decide (x.values.length = 0):=by
 unfold uh;rw [hk,if_pos h2];simp [h.1,h.2]
theorem amx {x:ba} (hk:Cm x.key = true) (h:1≤x.op∧x.op≤4) (h2:¬2 < x.op):uh x = (decide (1≤x.values.length)&&lE AQ bl 4 x.values):=by
 unfold uh;rw [hk,if_neg h2];simp [h.1,h.2]
theorem Wn {s:ByteArray} (h:(s.toList == []) = true):AQ s = true:=by
 have h1:s.toList = []:=by simpa using h
 have h2:s.size = 0:=by exact Jx
 unfold AQ;simp [h2]
theorem Wp {s:ByteArray} (h:(s.toList == []) = true):Cm s = false:=by
 have h1:s.toList = []:=by simpa using h
 have h2:s.size = 0:=by exact Jx
 unfold Cm;rw [Ou J];simp
theorem Kz (l:List UInt8):l.isEmpty = (l == []):=by cases l <;> rfl
def Dp (x:iU):Bool:=Cm x.key&&AQ x.value&&(decide (1≤x.al)&&decide (x.al≤2))
theorem V9 (x:iU) (cs:List Value) (F:List Nat) (w:World) (h:rd w x cs F) (kk:(x.key.size:Int)≤1048576) (m':(x.value.size:Int)≤1048576) :
 Calls Tryz.prog 125 #[.agg cs.toArray] w fun e w'=>e = .returned (.bool (Dp x))∧Below w.heap.size w w':=by
 obtain ⟨aw,qp,ca,kP,lD⟩:=oK h;subst aw;clear qp h;have gO:=I (Wn (s:=x.value));have gP:=I (Wp (s:=x.key));go_enter Tryz.func125,Tryz.ntmps125
 go_wp2_with (first
  | (go_at_call 123;refine (rX x.key _ kk).mono ?_;rintro e w2 ⟨rfl,av⟩;obtain ⟨ce,cK⟩:=ay av;have cD:w.heap.size < w2.heap.size:=(sq av.size))
  | (go_at_call 124;refine (xQ x.value _ m').mono ?_;rintro e w3 ⟨rfl,bj⟩;obtain ⟨cP,hf3⟩:=ay bj;have eK:w.heap.size < w3.heap.size:=(sq bj.size))
  | go_in)
 all_goals first
  | (go_ret;refine ⟨?_,bs⟩;refine congrArg (fun b=>Ending.returned (Value.bool b)) ?_;show (_:Bool) = _;(try clear ce cK);(try clear cP hf3);unfold Dp;(try simp only [Kz]);first | (simp [*];done) | (simp [*];omega) | (have QL:=gO.out;have QM:=gP.out;clear gO gP;(try clear av);(try clear bj);simp at QL QM;simp_all;done) | (have QL:=gO.out;have QM:=gP.out;clear gO gP;(try clear av);(try clear bj);simp at QL QM;simp_all;omega) | (have QL:=gO.out;have QM:=gP.out;clear gO gP;(try clear av);(try clear bj);simp at QL QM;simp_all;exact Bool.or_comm _ _))
  | skip
theorem Wh (x:iU) (cs:List Value) (F:List Nat) (w:World) (h:rd w x cs F) (kk:(x.key.size:Int)≤1048576) (m':(x.value.size:Int)≤1048576) :
 Calls Tryz.prog 141 #[.agg cs.toArray] w fun e w'=>e = .returned (.bool (Dp x))∧Below w.heap.size w w':=by
 obtain ⟨aw,qp,ca,kP,lD⟩:=oK h;subst aw;clear qp h;have gO:=I (Wn (s:=x.value));have gP:=I (Wp (s:=x.key));go_enter Tryz.func141,Tryz.ntmps141
 go_wp2_with (first
  | (go_at_call 136;refine (qK x.key _ kk).mono ?_;rintro e w2 ⟨rfl,av⟩;obtain ⟨ce,cK⟩:=ay av;have cD:w.heap.size < w2.heap.size:=(sq av.size))
  | (go_at_call 137;refine (vH x.value _ m').mono ?_;rintro e w3 ⟨rfl,bj⟩;obtain ⟨cP,hf3⟩:=ay bj;have eK:w.heap.size < w3.heap.size:=(sq bj.size))
  | go_in)
 all_goals first
  | (go_ret;refine ⟨?_,bs⟩;refine congrArg (fun b=>Ending.returned (Value.bool b)) ?_;show (_:Bool) = _;(try clear ce cK);(try clear cP hf3);unfold Dp;(try simp only [Kz]);first | (simp [*];done) | (simp [*];omega) | (have QL:=gO.out;have QM:=gP.out;clear gO gP;(try clear av);(try clear bj);simp at QL QM;simp_all;done) | (have QL:=gO.out;have QM:=gP.out;clear gO gP;(try clear av);(try clear bj);simp at QL QM;simp_all;omega) | (have QL:=gO.out;have QM:=gP.out;clear gO gP;(try clear av);(try clear bj);simp at QL QM;simp_all;exact Bool.or_comm _ _))
  | skip
def Q5 (x:bH):Bool:=(Cm x.key || (x.key.toList == [])&&!x.equal)&&AQ x.value&&((x.value.toList == []) || x.equal)&&(decide (0≤x.al)&&decide (x.al≤2))
def AY (t:bH) (x:iU):Bool:=Q5 t&&Dp x&&((t.key.toList == []) || t.key.toList == x.key.toList)&&(!t.equal || t.value.toList == x.value.toList)&&(t.al == 0 || t.al == x.al)
theorem Na (x:bH) (cs:List Value) (F:List Nat) (w:World) (h:rd w x cs F) (kk:(x.key.size:Int)≤1048576) (m':(x.value.size:Int)≤1048576) :
 Calls Tryz.prog 129 #[.agg cs.toArray] w fun e w'=>e = .returned (.bool (Q5 x))∧Below w.heap.size w w':=by
 obtain ⟨aw,qp,ca,kP,lD⟩:=jv h;subst aw;clear qp h;have gO:=I (Wn (s:=x.value));have gP:=I (Wp (s:=x.key));go_enter Tryz.func129,Tryz.ntmps129
 go_wp2_with (first
  | (go_at_call 123;refine (rX x.key _ kk).mono ?_;rintro e w2 ⟨rfl,av⟩;obtain ⟨ce,cK⟩:=ay av;have cD:w.heap.size < w2.heap.size:=(sq av.size))
  | (go_at_call 124;refine (xQ x.value _ m').mono ?_;rintro e w3 ⟨rfl,bj⟩;obtain ⟨cP,hf3⟩:=ay bj;have eK:w.heap.size < w3.heap.size:=(sq bj.size))
  | go_in)
 all_goals first
  | (go_ret;refine ⟨?_,bs⟩;refine congrArg (fun b=>Ending.returned (Value.bool b)) ?_;show (_:Bool) = _;(try clear ce cK);(try clear cP hf3);unfold Q5;(try simp only [Kz]);first | (simp [*];done) | (simp [*];omega) | (have QL:=gO.out;have QM:=gP.out;clear gO gP;(try clear av);(try clear bj);simp at QL QM;simp_all;done) | (have QL:=gO.out;have QM:=gP.out;clear gO gP;(try clear av);(try clear bj);simp at QL QM;simp_all;omega) | (have QL:=gO.out;have QM:=gP.out;clear gO gP;(try clear av);(try clear bj);simp at QL QM;simp_all;exact Bool.or_comm _ _))
  | skip
theorem Nb (x:bH) (cs:List Value) (F:List Nat) (w:World) (h:rd w x cs F) (kk:(x.key.size:Int)≤1048576) (m':(x.value.size:Int)≤1048576) :
 Calls Tryz.prog 139 #[.agg cs.toArray] w fun e w'=>e = .returned (.bool (Q5 x))∧Below w.heap.size w w':=by
 obtain ⟨aw,qp,ca,kP,lD⟩:=jv h;subst aw;clear qp h;have gO:=I (Wn (s:=x.value));have gP:=I (Wp (s:=x.key));go_enter Tryz.func139,Tryz.ntmps139
 go_wp2_with (first
  | (go_at_call 136;refine (qK x.key _ kk).mono ?_;rintro e w2 ⟨rfl,av⟩;obtain ⟨ce,cK⟩:=ay av;have cD:w.heap.size < w2.heap.size:=(sq av.size))
  | (go_at_call 137;refine (vH x.value _ m').mono ?_;rintro e w3 ⟨rfl,bj⟩;obtain ⟨cP,hf3⟩:=ay bj;have eK:w.heap.size < w3.heap.size:=(sq bj.size))
  | go_in)
 all_goals first
  | (go_ret;refine ⟨?_,bs⟩;refine congrArg (fun b=>Ending.returned (Value.bool b)) ?_;show (_:Bool) = _;(try clear ce cK);(try clear cP hf3);unfold Q5;(try simp only [Kz]);first | (simp [*];done) | (simp [*];omega) | (have QL:=gO.out;have QM:=gP.out;clear gO gP;(try clear av);(try clear bj);simp at QL QM;simp_all;done) | (have QL:=gO.out;have QM:=gP.out;clear gO gP;(try clear av);(try clear bj);simp at QL QM;simp_all;omega) | (have QL:=gO.out;have QM:=gP.out;clear gO gP;(try clear av);(try clear bj);simp at QL QM;simp_all;exact Bool.or_comm _ _))
  | skip
section
variable {P:Program} {ops:Array Oper} {md:Region.Mode} {C:World→Prop} {Q:Exit→Act→World→Prop}
def Lr (P:Program) (ops:Array Oper) (C:World→Prop) (Q:Exit→Act→World→Prop) (E:Act→World→Prop):List Oper→Act→World→Prop
 | [],a,w=>E a w
 | o :: rest,a,w=>if Region.wanted o (yielded ops a.tmps) then o.wp P a w (fun a' w'=>C w'∧Lr P ops C Q E rest a' w') Q else C w∧Lr P ops C Q E rest (a.put o.dst undef) w
theorem yG {E:Act→World→Prop} {a:Act} {w:World} (h:E a w):Lr P ops C Q E [] a w:=h
theorem iK {E:Act→World→Prop} {a:Act} {w:World} {o:Oper} {rest:List Oper} (hw:Region.wanted o (yielded ops a.tmps) = true)
 (h:∀K:Act→World→Prop,(∀a' w',C w'→Lr P ops C Q E rest a' w'→K a' w')→o.wp P a w K Q):Lr P ops C Q E (o :: rest) a w:=by
 unfold Lr;rw [if_pos hw];exact h _ fun a' w' h1 h2=>⟨h1,h2⟩
def V6 (P:Program) (md:Region.Mode) (ops:Array Oper) (Q:Exit→Act→World→Prop) (C:World→Prop) (E:Array Bool→Act→World→Prop):Nat→Array Bool→Act→World→Prop
 | 0,aq,a,w=>E aq a w
 | n+1,aq,a,w=>Region.ready md ops aq≠[]∧∀i∈Region.ready md ops aq,wpOp P ops Q i (fun a' w'=>C w'∧V6 P md ops Q C E n (aq.setIfInBounds i true) a' w') a w
theorem TH {m:Nat} {E:Array Bool→Act→World→Prop} (hE:∀l a w,E l a w→wpAny P md ops Q m l a w):∀(n:Nat) (aq:Array Bool) (a:Act) (w:World),V6 P md ops Q C E n aq a w→wpAny P md ops Q (m+n) aq a w
 | 0,_,_,_,h=>hE _ _ _ h
 | n+1,aq,a,w,h=>⟨fun h0=>absurd h0 h.1,fun i hi=>wpOp_mono (fun a' w' h'=>TH hE n _ a' w' h'.2) (h.2 i hi)⟩
theorem Ym:∀(l:List Oper) (ks:List Nat) (aq:Array Bool) (a:Act) (w:World),l.toArray = ops→VI md ops ks aq = true→wpList P ops Q (cH l ks) a w→wpAny P md ops Q ks.length aq a w
 | l,[],aq,a,w,hl,hB,h=>by
   simp only [VI,List.isEmpty_iff] at hB;exact ⟨hB,h⟩
 | l,k :: ks,aq,a,w,hl,hB,h=>by
   simp only [VI,Bool.and_eq_true,decide_eq_true_eq] at hB;obtain ⟨_,o,ho,_⟩:=mem_ready.1 (show k∈Region.ready md ops aq by rw [hB.1];simp);have uF:l[k]? = some o:=(by rw [← hl] at ho;simpa using ho);simp only [cH,uF] at h;refine ⟨fun h0=>absurd h0 (by rw [hB.1];simp),fun i hi=>?_⟩;obtain rfl:i = k:=by rw [hB.1] at hi;simpa using hi
   unfold wpOp;simp only [ho];unfold wpList at h;split
   ·rename_i hw;rw [if_pos hw] at h;rcases h with h | h
    ·exact .inl (Oper.wp_mono (fun a' w' h'=>Ym l ks _ a' w' hl hB.2 h') h)
    ·exact .inr h
   ·rename_i hw;rw [if_neg hw] at h;exact Ym l ks _ _ _ hl hB.2 h
theorem alc {E:Array Bool→Act→World→Prop} {i:Nat} {oi:Oper} {v:Value} (hi:ops[i]? = some oi) (rc:∀(j:Nat) (o:Oper) cs b,ops[j]? = some o→o.op≠.select cs b)
 (hQ:∀c a w,Q (.panic c) (a.put oi.dst v) w→Q (.panic c) a w)
 (hg:∀l a w,E l a w→∀j∈Region.ready md ops l,∃oj,ops[j]? = some oj∧∃e∈oj.after,Region.binds md e = true∧e.on = i) :
 ∀(n:Nat) (aq:Array Bool) (a:Act) (w:World),
  (∀j oj,ops[j]? = some oj→j≠i→aq.getD j true = false→(∀e∈oj.after,Region.binds md e = true→e.on≠i)→oi.apart ops oj = true) →
  i∈Region.ready md ops aq→YieldsIf P ops C oi v a→C w →
  V6 P md ops Q C E n (aq.setIfInBounds i true) (a.put oi.dst v) w→V6 P md ops Q C E (n+1) aq a w:=by
 intro n;have wA:∀{aq:Array Bool} {j:Nat} {oj:Oper},i∈Region.ready md ops aq→j∈Region.ready md ops aq→ops[j]? = some oj→∀e∈oj.after,Region.binds md e = true→e.on≠i:=by
  intro aq j oj hr hj lB e he hb OR;obtain ⟨_,ok,gd,hall⟩:=mem_ready.1 hj;rw [lB] at gd;obtain rfl:=Option.some.inj gd;exact ID
 induction n with
 | zero =>
   intro aq a w _ hr hy hC H;refine ⟨fun h=>Ph,fun j hj=>?_⟩;by_cases k':j = i
   ·subst k';exact hy.wpOp hi hC ⟨hC,H⟩
   ·obtain ⟨oj,lB,e,he,hb,OR⟩:=hg _ _ _ H j (ready_mono hj k');exact absurd OR (wA hr hj lB e he hb)
 | succ n ih =>
   intro aq a w mm hr hy hC H;refine ⟨fun h=>Ph,fun j hj=>?_⟩;by_cases k':j = i
   ·subst k';exact hy.wpOp hi hC ⟨hC,H⟩
   ·have h1:=H.2 j (ready_mono hj k');obtain ⟨re,oj,lB,hall⟩:=mem_ready.1 hj;have rg:=wA hr hj lB;have h2:=wpOp_putIf lB (mm j oj lB k' re rg) (fun cs b=>rc i oi cs b hi) (fun cs b=>rc j oj cs b lB) hQ hy h1
    have BC:∀k ok,ops[k]? = some ok→k≠i→(aq.setIfInBounds j true).getD k true = false →
        (∀e∈ok.after,Region.binds md e = true→e.on≠i)→oi.apart ops ok = true:=fun k ok hk uE D3 nf=>by
     refine mm k ok hk uE ?_ nf;by_cases gm:j = k
     ·subst gm;exact re
     ·rw [getD_set_ne true gm] at D3;exact D3
    refine wpOp_mono (fun a' w' h3=>⟨h3.2.1,ih (aq.setIfInBounds j true) a' w' BC (ready_mono hr (Ne.symm k')) h3.1 h3.2.1 ?_⟩) h2;rw [Array.setIfInBounds_comm _ _ k'];exact h3.2.2
def PN (md:Region.Mode) (ops:Array Oper) (aq:Array Bool) (i:Nat):Bool:=(Region.ready md ops aq).all fun j=>match ops[j]? with | some o=>o.after.any fun e=>Region.binds md e&&e.on == i | none=>false
theorem aoT {aq:Array Bool} {i:Nat} (h:PN md ops aq i = true):∀j∈Region.ready md ops aq,∃oj,ops[j]? = some oj∧∃e∈oj.after,Region.binds md e = true∧e.on = i:=by
 intro j hj;have h1:=List.all_eq_true.1 h j hj;obtain ⟨_,oj,lB,_⟩:=mem_ready.1 hj;simp only [lB] at h1;obtain ⟨k,hk,h2⟩:=Array.any_eq_true.1 h1;simp only [Bool.and_eq_true,beq_iff_eq] at h2;exact ⟨oj,lB,_,Array.getElem_mem hk,h2.1,h2.2⟩
def Lf (md:Region.Mode) (ops:Array Oper):List Nat→Array Bool→Bool
 | [],_=>true
 | k :: ks,aq=>decide (Region.ready md ops aq = [k])&&Lf md ops ks (aq.setIfInBounds k true)
theorem TI {E:Array Bool→Act→World→Prop} : ∀(l:List Oper) (ks:List Nat) (aq:Array Bool) (a:Act) (w:World),l.toArray = ops→Lf md ops ks aq = true→Lr P ops C Q (E (zY ks aq)) (cH l ks) a w→V6 P md ops Q C E ks.length aq a w
 | l,[],aq,a,w,hl,hB,h=>h
 | l,k :: ks,aq,a,w,hl,hB,h=>by
   simp only [Lf,Bool.and_eq_true,decide_eq_true_eq] at hB;obtain ⟨_,o,ho,_⟩:=mem_ready.1 (show k∈Region.ready md ops aq by rw [hB.1];simp);have uF:l[k]? = some o:=(by rw [← hl] at ho;simpa using ho);simp only [cH,uF] at h;refine ⟨by rw [hB.1];simp,fun i hi=>?_⟩;obtain rfl:i = k:=by rw [hB.1] at hi;simpa using hi
   unfold wpOp;simp only [ho];unfold Lr at h;have next:∀a' w',C w'∧Lr P ops C Q (E (zY (i :: ks) aq)) (cH l ks) a' w'→C w'∧V6 P md ops Q C E ks.length (aq.setIfInBounds i true) a' w':=fun a' w' hh =>
    ⟨hh.1,TI l ks _ a' w' hl hB.2 hh.2⟩
   exact Jd
theorem ZX {E:Array Bool→Act→World→Prop} (hs:Region.noSelect ops = true) (hQ:∀c a d v w,Q (.panic c) (Act.put a d v) w→Q (.panic c) a w) {w:World} (hC:C w) (L:Array Bool) (hL:∀l a w,E l a w→l = L):∀(l:List Oper) (js:List Nat) (g:Nat) (aq:Array Bool) (a:Act),l.toArray = ops →
 VH md ops js aq = true→(js.all fun i=>PN md ops L i) = true→OQ P ops C (fun a'=>V6 P md ops Q C E g (zY js aq) a' w) (cH l js) a→V6 P md ops Q C E (g+js.length) aq a w
 | l,[],g,aq,a,hl,hB,hG,h=>h
 | l,k :: js,g,aq,a,hl,hB,hG,h=>by
   simp only [VH,Bool.and_eq_true] at hB;simp only [List.all_cons,Bool.and_eq_true] at hG;have hr:k∈Region.ready md ops aq:=(by simpa using hB.1.2);obtain ⟨_,o,ho,_⟩:=mem_ready.1 hr;have uF:l[k]? = some o:=(by rw [← hl] at ho;simpa using ho);simp only [cH,uF] at h;obtain ⟨v,hy,hn⟩:=h;refine alc ho (Region.noSelect_spec hs) (fun c a' w'=>hQ c a' _ v w') (fun l a w he=>by rw [hL l a w he];exact aoT hG.1) (g+js.length) aq a w (Region.free_spec ho hB.1.1) hr hy hC ?_;exact ZX hs hQ hC L hL l js g _ _ hl hB.2 hG.2 hn
def Lg (ops:Array Oper) (js ks ts:List Nat):Bool :=
 Region.noSelect ops&&decide (ts.length+(ks.length+js.length) = ops.size)&&VH .any ops js (Array.replicate ops.size false)&&Lf .any ops ks (zY js (Array.replicate ops.size false))&&VI .any ops ts (zY ks (zY js (Array.replicate ops.size false)))&&js.all (fun i=>PN .any ops (zY ks (zY js (Array.replicate ops.size false))) i)
theorem uq {id:Nat} {a:Act} {w:World} {l:List Oper} (C:World→Prop) (js ks ts:List Nat) (hm:P.follows .mixedOrders = true) (hB:Lg l.toArray js ks ts = true) (hQ:∀c a d v w,Q (.panic c) (Act.put a d v) w→Q (.panic c) a w)
 (hC:C w.drew) (h:OQ P l.toArray C (fun a'=>Lr P l.toArray C Q (wpList P l.toArray Q (cH l ts)) (cH l ks) a' w.drew) (cH l js) a):(Code.region id l.toArray true).wp P Q a w:=by
 simp only [Lg,Bool.and_eq_true] at hB;obtain ⟨⟨⟨⟨⟨hs,hn⟩,hh⟩,hk⟩,ht⟩,hg⟩:=hB;rw [decide_eq_true_eq] at hn;let L:=zY ks (zY js (Array.replicate l.toArray.size false))
 let E:Array Bool→Act→World→Prop:=fun m b w'=>m = L∧wpList P l.toArray Q (cH l ts) b w'
 have mono:∀(m:List Oper) (b:Act),OQ P l.toArray C (fun a'=>Lr P l.toArray C Q (wpList P l.toArray Q (cH l ts)) (cH l ks) a' w.drew) m b →
     OQ P l.toArray C (fun a'=>V6 P .any l.toArray Q C E ks.length (zY js (Array.replicate l.toArray.size false)) a' w.drew) m b:=by
  intro m;induction m with
  | nil =>
    intro b hb;refine TI (md:=.any) l ks _ b w.drew rfl hk ?_;have e:E (zY ks (zY js (Array.replicate l.toArray.size false))) = wpList P l.toArray Q (cH l ts):=by
     funext b w';exact propext ⟨fun h=>h.2,fun h=>⟨rfl,h⟩⟩
    rw [e];exact hb
  | cons o m ih =>intro b ⟨v,hy,hb⟩;exact ⟨v,hy,ih _ hb⟩
 have h1:=ZX (md:=.any) (P:=P) (C:=C) (E:=E) hs hQ hC L (fun l a w he=>he.1) l js ks.length (Array.replicate l.toArray.size false) a rfl hh hg (mono _ _ h)
 have h2:=TH (md:=.any) (P:=P) (C:=C) (E:=E) (m:=ts.length) (fun m b w' he=>by
  obtain ⟨rfl,hl⟩:=he
  exact Ym (md:=.any) l ts _ b w' rfl ht hl) _ _ _ _ h1
 rw [hn] at h2;exact wp_region_any hm h2
end
end Go.Proofs.YtjahcnjmjahbaaaGreat
