/- append of one element, and where the new row lies; several rows of the call's own side by side; a row read as a slice. No condition. -/
import Derived.Test.YtdegaofigemegaaGreatDivP
import Derived.Lib.SmallJoins
import Derived.Lib.IndexAny
namespace Go.Proofs.YtdegaofigemegaaGreat
open Go.ChangeShapes Go.WideShapes Go.ChangeAt Go.RowKit
set_option linter.unusedVariables false
set_option linter.unusedSimpArgs false
set_option maxHeartbeats 400000
set_option maxRecDepth 100000
theorem mG {w w':World} {B e size n:Nat} {v:Value} {xs:List Value} (h:w.ownsRow B e size v n xs) (hb:Below w.heap.size w w'):w'.ownsRow B e size v n xs :=
 h.kept (row:=none) ⟨hb.os,hb.tape,hb.output,hb.size,λk hk _=>hb.block k hk⟩ (by cases hv:v.ownBlock <;> simp)
theorem vP {w:World} {B B' e size n:Nat} {v:Value} {xs:List Value} (h:w.ownsRow B e size v n xs) (hB:B'<=B):w.ownsRow B' e size v n xs:=by
 refine ⟨h.1,?_⟩;rcases h.2 with h | ⟨g,cap,cj,h1,h2,h3⟩
 ·exact .inl h
 ·exact .inr ⟨g,cap,cj,h1,Nat.le_trans hB h2,h3⟩
def DK (u v:Value):Prop:=u.ownBlock = none∨u.ownBlock≠v.ownBlock
theorem DK.symm {u v:Value} (h:DK u v):DK v u:=by
 unfold DK at *;rcases h with h | h
 ·cases hv:v.ownBlock with
  | none=>exact .inl rfl
  | some k=>right;rw [h];simp
 ·exact .inr (Ne.symm h)
theorem DK.grow {u u' v:Value} {w:World} {B e size n:Nat} {xs:List Value} (h:DK u v) (hv:w.ownsRow B e size v n xs) {N:Nat} (hN:w.heap.size<=N) (cF:u'.ownBlock = u.ownBlock∨u'.ownBlock = some N):DK u' v:=by
 rcases cF with cF | cF
 ·unfold DK at *;rw [cF];exact h
 ·right;rw [cF];intro e;have:=hv.lt N e.symm;omega
section
variable {P:Program} {t e:TypeId} {z:Value} {size bytes:Nat}
theorem uf (hE:DL P t e z size bytes) {ops:Array Oper} {rest:List Oper} {o:Oper} {a:Act} {Q:Exit->Act->World->Prop} (xp:o.guard = none) (s x:Operand)
 (ho:o.op = .call { callee:=.builtin .append,args:=#[s,x],argTypes:=#[t,t] })
 (w:World) (base:Nat) (v:Value) (n:Nat) (xs:List Value) (aw:w.ownsRow base e size v n xs) (hs:a.eval s = v)
 (cs:List Value) (hx:a.eval x = .slice (some ⟨w.heap.size,0,none⟩) 1 1) (hl:cs.length = size) (h1:∀u∈cs,u.oneCell' = true)
 (hn:n<=2097152) (sx:bytes<=4096) (df:base<=w.heap.size)
 (h:∀v' w',w'.ownsRow base e size v' (n+1) (xs++cs)->w.grownBy w' v.ownBlock->w.heap.size+1<=w'.heap.size->(v'.ownBlock = v.ownBlock∨v'.ownBlock = some (w.heap.size+1))->wpList P ops Q rest (a.put o.dst v') w'):wpList P ops Q (o :: rest) a (w.alloc (.cells cs.toArray e)):=by
 obtain ⟨ht,gw,gP,d9⟩:=hE;obtain ⟨i,hi,hz,hsize,hb⟩:=info_parts gw;have pL:(n+1) * bytes<=2097153 * 4096:=Nat.mul_le_mul J sx;refine wpList_append_own_at (w.alloc (.cells cs.toArray e)) xp s x t ho base e i z size bytes ht hi hz hsize hb gP d9 v n xs hs (aw.alloc _) ⟨w.heap.size,0,none⟩ 1 1 cs hx J ?_ h1 pE J (by simp;omega) ?_
 ·exact DB
 ·intro v' w' oR hg _ cF;refine h v' w' oR ⟨hg.os,hg.tape,hg.output,Nat.le_trans S' hg.size,λk hk bI=>?_⟩ avU (by simpa using cF);rw [hg.block k (by simp;omega) bI];exact Below.heap_alloc _ _ _ hk
end
theorem Sl.oJ {α:Type} [ax α] {w:World} {B:Nat} {e:TypeId} {v:Value} {xs:List α} {ds:List Value} {F:List Nat} (h0:w.ownsRow B e (ax.size α) v xs.length ds) (h:jo w xs ds F):∃A c G,v = .slice A xs.length c/\Sl w xs A c G:=by
 rcases h0 with ⟨hl,⟨rfl,hn⟩ | ⟨g,cap,cj,rfl,hb,hh,eW,hm,dC,ht⟩⟩
 ·obtain rfl:xs = []:=List.eq_nil_of_length_eq_zero hn;exact ⟨none,0,[],rfl,Sl.nil w none 0 (Nat.zero_le _)⟩
 ·have hg:g < w.heap.size:=by
   exact LN
  refine ⟨_,cap,g :: F,rfl,⟨_,cap,F,ds,rfl,eW,hm,h,.inr ⟨g,0,rfl,rfl,hg,λj u hu=>?_⟩⟩⟩;exact Ls
theorem Fv (w:World):∀(xs:List Int),(∀x∈xs,bt x)->jo w xs (xs.map λn=>.int .i64 n) []
 | [],_=>⟨rfl,rfl⟩
 | x :: xs,h=>⟨[.int .i64 x],_,[],[],rfl,rfl,jL w x (h x (List.mem_cons_self ..)),Fv w xs λy hy=>h y (List.mem_cons_of_mem _ hy)⟩
theorem atB:(Tryz.prog.info? 3).map (λi=>(i.zero,i.size,i.bytes)) = some (some (.int .i64 0),1,8):=by kernel_rfl
theorem RM:DL Tryz.prog 96 3 (.int .i64 0) 1 8:=⟨Tryz.underlying96,atB,rfl,J⟩
theorem EI (x y:Int) (w:World):Calls Tryz.prog 149 #[.int .i64 x,.int .i64 y] w λe w'=>e = .returned (.int .i64 (Lib.compareInt x y))/\w' = w:=by
 go_enter Tryz.func149,Tryz.ntmps149;go_wp2;all_goals (go_ret;refine ⟨?_,rfl⟩;unfold Lib.compareInt;(repeat' split) <;> first | rfl | (exfalso;omega))
def Qa:List Int->Int
 | []=>0
 | x :: xs=>if x = 0 then Qa xs else x
theorem aqF {xs:List Int} {k:Nat} (h:k < xs.length):Qa (xs.drop k) = if xs[k] = 0 then Qa (xs.drop (k+1)) else xs[k]:=by
 rw [<- List.getElem_cons_drop h];rfl
theorem Uo (xs:List Int) (A:Option Addr) (n c:Nat) (F:List Nat) (w:World) (h:Sl w xs A c F) (hn:n = xs.length) (hl:(xs.length:Int)<=1048576) :
 Calls Tryz.prog 148 #[.slice A n c] w λe w'=>e = .returned (.int .i64 (Qa xs))/\w' = w:=by
 subst hn;go_enter Tryz.func148,Tryz.ntmps148;go_wp2_with fail
 go_slots
 go_loop [8] (λi=>∃k:Nat,k<=xs.length/\i = .int .i64 k/\Hid (Qa xs = Qa (xs.drop k))) (λi=>xs.length - (intOf i).toNat)
 case atStart=>exact ⟨0,Nat.zero_le _,rfl,rfl⟩
 case round =>
  obtain ⟨k,hk,rfl,HO⟩:=hrel;by_cases ap:k < xs.length
  ·obtain ⟨b,o,ck,Fk,rfl,o9,hbs,hr,bi,hc⟩:=h.get ap;obtain ⟨ar,su,hI⟩:=hr;subst ar su;have q0:w.cell? ⟨b,o+k,none⟩ = some (.int .i64 xs[k]):=(by have:=hc 0 _ rfl;rwa [show o+(k * ax.size Int+0) = o+k from by show o+(k * 1+0) = _;omega] at this);clear hc;have hd:=aqF ap;by_cases h0:xs[k] = 0
   ·rw [if_pos h0] at hd;have HN:=I (HO.out.trans hd);clear hd;have cY:(xs[k] == 0) = true:=(by simp [h0]);go_wp2;exact En
   ·rw [if_neg h0] at hd;have HN:=I (HO.out.trans hd);clear hd;have cY:(xs[k] == 0) = false:=(by simp [h0]);exact ul
  ·have bz:k = xs.length:=J;subst bz;have ho:=HO.out;rw [List.drop_length] at ho;have HN:=I ho;clear ho;exact ul
theorem BU (a b:Int):-1<=Lib.compareInt a b/\Lib.compareInt a b<=1:=by
 unfold Lib.compareInt;repeat' split
 all_goals omega
theorem Sl.Va (W:World) (xs:List Int) (t:TypeId) (h:∀x∈xs,bt x) (hl:xs.length<=maxLen):Sl (W.alloc (.cells (xs.map λn=>Value.int .i64 n).toArray t)) xs (some ⟨W.heap.size,0,none⟩) xs.length [W.heap.size] :=
 ⟨_,_,[],xs.map λn=>.int .i64 n,rfl,Nat.le_refl _,hl,Fv _ xs h,.inr ⟨W.heap.size,0,rfl,rfl,S',λj u hu=>by
   rw [Nat.zero_add,cell_of_row _ _ _ _ _ _ (heap_alloc_new W _)]
   simpa using hu⟩⟩
theorem Sl.Up {α:Type} [ax α] {w:World} {xs:List α} {A:Option Addr} {c:Nat} {F:List Nat} (h:Sl w xs A c F):Sl w.drew xs A c F:=h.frame (λ_ _=>rfl) (Nat.le_refl _)
theorem bt.small {n:Int} (h:-1<=n/\n<=1):bt n:=by unfold bt;omega
theorem Sl.Bf (W:World) (a b c:Int) (t:TypeId) (ha:bt a) (hb:bt b) (hc:bt c) (N:Nat) (hN:W.heap.size = N):Sl (W.alloc (.cells #[.int .i64 a,.int .i64 b,.int .i64 c] t)) [a,b,c] (some ⟨N,0,none⟩) 3 [N]:=by
 subst hN;exact Sl.Va W [a,b,c] t (by intro x hx;simp only [List.mem_cons,List.not_mem_nil,or_false] at hx;rcases hx with rfl | rfl | rfl <;> assumption) (by unfold maxLen;simp)
theorem abm (a b:ByteArray) (w:World):Calls Tryz.prog 152 #[.string a,.string b] w λe w'=>e = .returned (.int .i64 (Lib.compareBytes a.data.toList b.data.toList))/\w' = w:=by
 go_enter Tryz.func152,Tryz.ntmps152;go_wp2;rw [run_callFunc_extern Tryz.func177 U' U' U' (e:=Extern.BytealgCompare.compare) U',Lib.run_compareString];simp only [Result.andThen];rw [Oper.upon_value];go_wp2;go_ret
 exact ⟨rfl,rfl⟩
theorem N8 (a b:ByteArray) (w:World):Calls Tryz.prog 117 #[.string a,.string b] w λe w'=>e = .returned (.int .i64 (Lib.compareBytes a.data.toList b.data.toList))/\w' = w:=by
 go_enter Tryz.func117,Tryz.ntmps117;go_wp2_with fail
 refine (abm a b _).mono ?_;rintro e w' ⟨rfl,rfl⟩;go_wp2;go_ret
 exact ⟨rfl,rfl⟩
def Gr (w w':World):Prop:=∃q os,w' = Go.Sort.grow (w.drewN q) os
theorem Gr.refl (w:World):Gr w w:=⟨0,#[],by simp [Go.Sort.grow,World.drewN]⟩
theorem Gr.alloc {w w':World} (h:Gr w w') (o:Obj):Gr w (w'.alloc o):=by
 obtain ⟨q,os,rfl⟩:=h;exact ⟨q,os.push o,by simp [Go.Sort.grow,World.alloc,World.drewN]⟩
theorem Gr.drew {w w':World} (h:Gr w w'):Gr w w'.drew:=by
 obtain ⟨q,os,rfl⟩:=h;exact ⟨q+1,os,rfl⟩
theorem Gr.trans {w w1 w2:World} (h:Gr w w1) (k:Gr w1 w2):Gr w w2:=by
 obtain ⟨q,os,rfl⟩:=h;obtain ⟨q2,os2,rfl⟩:=k;exact ⟨q+q2,os++os2,by simp [Go.Sort.grow,World.drewN,Nat.add_assoc]⟩
theorem Gr.below {w w':World} (h:Gr w w'):Below w.heap.size w w':=by
 obtain ⟨q,os,rfl⟩:=h;exact ⟨rfl,rfl,rfl,by simp [Go.Sort.grow,World.drewN],λk hk=>by simp [Go.Sort.grow,World.drewN,Array.getElem?_append_left hk]⟩
def zL (p s f:Int):Bool:=(decide (0<=p)&&decide (p<=10))&&(decide (0<=s)&&decide (s<=10))&&(decide (0<=f)&&decide (f<=10))
theorem kH (n a b:Int) (w:World):Calls Tryz.prog 86 #[.int .i64 n,.int .i64 a,.int .i64 b] w λe w'=>e = .returned (.bool (decide (a<=n)&&decide (n<=b)))/\w = w':=by
 go_enter Tryz.func86,Tryz.ntmps86;go_wp2;all_goals go_ret
 all_goals simp [*]
 all_goals omega
theorem jc (n a b:Int) (w:World):Calls Tryz.prog 31 #[.int .i64 n,.int .i64 a,.int .i64 b] w λe w'=>e = .returned (.bool (decide (a<=n)&&decide (n<=b)))/\w = w':=by
 go_enter Tryz.func31,Tryz.ntmps31;go_wp2;all_goals go_ret
 all_goals simp [*]
 all_goals omega
theorem pW (p s f:Int) (w:World):Calls Tryz.prog 85 #[.agg #[.int .i64 p,.int .i64 s,.int .i64 f]] w λe w'=>e = .returned (.bool (zL p s f))/\Below w.heap.size w w':=by
 go_enter Tryz.func85,Tryz.ntmps85;go_wp2_with (go_at_call 86;refine (kH _ _ _ _).mono ?_;rintro e w' ⟨rfl,rfl⟩)
 all_goals go_ret
 all_goals exact ⟨by simp [zL, *],(Below.refl _ _).alloc (Nat.le_refl _) _⟩
theorem pU (p s f:Int) (w:World):Calls Tryz.prog 32 #[.agg #[.int .i64 p,.int .i64 s,.int .i64 f]] w λe w'=>e = .returned (.bool (zL p s f))/\Below w.heap.size w w':=by
 go_enter Tryz.func32,Tryz.ntmps32;go_wp2_with (go_at_call 31;refine (jc _ _ _ _).mono ?_;rintro e w' ⟨rfl,rfl⟩)
 all_goals go_ret
 all_goals exact ⟨by simp [zL, *],(Below.refl _ _).alloc (Nat.le_refl _) _⟩
structure BC where
 kind:Int
 name:ByteArray
 xA:bN
 weights:rZ
instance:ax BC:=ax.rz λx=>(x.kind,x.name,x.xA,x.weights)
def kL {α:Type} (f:α->Nat) (xs:List α):Nat:=xs.length+(xs.map f).sum
abbrev It (xs:List ByteArray):Nat:=kL ByteArray.size xs
theorem Bq {α:Type} {f:α->Nat} {xs:List α} {x:α} (h:x∈xs):f x<=kL f xs:=by
 unfold kL;induction xs with
 | nil=>cases h
 | cons y ys ih =>
   rcases List.mem_cons.1 h with rfl | h
   ·simp;omega
   ·have:=ih h;simp at this |-;omega
theorem rM {α:Type} {f:α->Nat} {xs:List α} {k:Nat} (h:k < xs.length):f xs[k]<=kL f xs:=Bq (List.getElem_mem h)
theorem gJ {α:Type} (f:α->Nat) (xs:List α):xs.length<=kL f xs:=by unfold kL;omega
def ao.wt (x:ao):Nat:=x.key.size+x.value.size
def aL.wt (x:aL):Nat:=x.key.size+It x.values
def iU.wt (x:iU):Nat:=x.key.size+x.value.size
def bH.wt (x:bH):Nat:=x.key.size+x.value.size
def nI.wt (x:nI):Nat:=x.name.size+kL ao.wt x.labels+kL aL.wt x.af+kL bH.wt x.ae
def ba.wt (x:ba):Nat:=x.name.size+kL ao.wt x.labels+kL iU.wt x.aT
def ag.wt (x:ag):Nat:=x.aS.wt+x.on.size
def aU.wt (x:aU):Nat:=kL ba.wt x.O+kL ag.wt x.M
def bN.wt (x:bN):Nat:=x.aS.wt+x.aD.wt
def tV.wt (x:tV):Nat:=x.path.size
def vt (P:Program) (t:TypeId) (α:Type) [ax α]:Prop:=∀(H:Type) (enc:TypeId × Value->H) (w:World) (base fY:Nat) (spare:Nat->Bool) (held:Bool) (cs:List Value) (d:DataW H × List MemPlace),
 DataW.trod enc P w base spare held fY t cs = some d->∃(x:α) (F:List Nat),rd w x cs F
theorem yH {P:Program} {t e:TypeId} {α:Type} [ax α] (ht:P.underlying t = some (.slice e)) (hC:P.cellsOf e = ax.size α) (h:vt P e α):vt P t (List α):=by
 intro H enc w base fY spare held cs d hd;rcases Deep.open_slice ht hd with ⟨rfl,_⟩ | ⟨a,len,cap,m,n,D,Pl,rfl,hb,hl,hm,Pc,hx,hi⟩
 ·exact ⟨[],[],Sl.nil w none 0 (Nat.zero_le _)⟩
 ·rcases Nat.eq_zero_or_pos len with rfl | hpos
  ·exact ⟨[],[],Sl.nil w (some a) cap hm⟩
  ·have zx:len<=m:=(by rw [Pc];split <;> omega);have aac:=ax.pos (α:=α);have iC:a.spot = none/\a.block < w.heap.size:=by
    obtain ⟨Wt,hc,_⟩:=hi 0 J;obtain ⟨_,cR,cF⟩:=World.cells?_some hc;have h0:=cF (i:=0) J;simp only [Nat.zero_mul] at h0;have e0:(a.add 0).add 0 = a:=(by simp [Addr.add]);rw [e0] at h0;rw [List.getElem?_eq_getElem J] at h0;refine ⟨?_,World.block_lt_of_cell? w a h0⟩;unfold World.cell? at h0;split at h0
    ·split at h0
     ·cases h0
     ·rename_i hs;simpa using hs
    ·cases h0
   obtain ⟨b,o,sp⟩:=a;obtain ⟨rfl,hblt⟩:=iC;have step:∀k,k<=len->∃(xs:List α) (ds:List Value) (G:List Nat),xs.length = k/\jo w xs ds G/\∀j u,ds[j]? = some u->w.cell? ⟨b,o+j,none⟩ = some u:=by
    intro k;induction k with
    | zero=>exact λ_=>⟨[],[],[],rfl,⟨rfl,rfl⟩,λj u hu=>by simp at hu⟩
    | succ k ih =>
      intro hk;obtain ⟨xs,ds,G,tF,hr,hc⟩:=ih J;obtain ⟨Wt,dC,htr⟩:=hi k J;obtain ⟨x,F,hxr⟩:=h H enc w base n spare held Wt _ htr;obtain ⟨_,cR,cF⟩:=World.cells?_some dC;refine ⟨xs++[x],ds++Wt,G++F,by simp [tF],hr.append (.single hxr),λj u hu=>?_⟩;have cM:=hr.len;rw [tF] at cM;by_cases hj:j < ds.length
      ·exact hc j u (by rwa [List.getElem?_append_left hj] at hu)
      ·rw [List.getElem?_append_right J] at hu;have RP:=(List.getElem?_eq_some_iff.1 hu).1;have h1:=cF (i:=j - ds.length) J;rw [hu,hC] at h1;have e1:((⟨b,o,none⟩:Addr).add (k * ax.size α)).add (j - ds.length) = ⟨b,o+j,none⟩:=by
        rw [Deep.add_add];unfold Addr.add;split
        ·simp <;> omega
        ·simp <;> omega
       rw [e1] at h1;exact h1
   obtain ⟨xs,ds,G,tF,hr,hc⟩:=step len (Nat.le_refl _);subst tF;exact ⟨xs,b :: G,_,cap,G,ds,rfl,hl,hm,hr,.inr ⟨b,o,rfl,rfl,hblt,hc⟩⟩
def GL (c:Int):Bool:=decide (97<=c)&&decide (c<=122) || decide (65<=c)&&decide (c<=90) || decide (48<=c)&&decide (c<=57)
def UC (c:Int):Bool:=decide (97<=c)&&decide (c<=122)
def UE (c:Int):Bool:=decide (48<=c)&&decide (c<=57)
def okB (o:ByteArray) (c:UInt8):Bool:=GL c.toNat || o.data.toList.contains c
def GN (o s:ByteArray):Bool:=decide (0 < s.size)&&(GL (s.data.toList.getD 0 0).toNat&&GL (s.data.toList.getD (s.size - 1) 0).toNat)&&s.data.toList.all (okB o)
theorem DF {s:ByteArray} {k:Nat} (h:k < s.size):s.data.toList.getD k 0 = s[k]:=by
 have h':k < s.data.size:=h;rw [List.getD_eq_getElem?_getD,List.getElem?_eq_getElem (by simpa using h')];simp [ByteArray.getElem_eq_getElem_data]
theorem YX {s:ByteArray} {p:UInt8->Bool} (h:∀j (hj:j < s.size),p s[j] = true):s.data.toList.all p = true:=by
 rw [List.all_eq_true];intro x hx;obtain ⟨j,hj,rfl⟩:=List.getElem_of_mem hx;have RP:j < s.size:=by simpa using hj
 have:=h j RP;simpa [ByteArray.getElem_eq_getElem_data] using this
theorem TM {s:ByteArray} {p:UInt8->Bool} {k:Nat} (hk:k < s.size) (h:p s[k] = false):s.data.toList.all p = false:=by
 rw [List.all_eq_false];have so:k < s.data.size:=hk;refine ⟨s.data.toList[k]'(by simpa using so),List.getElem_mem _,?_⟩;simp only [Array.getElem_toList];rw [ByteArray.getElem_eq_getElem_data] at h;simp [h]
theorem X4 {s:ByteArray} {p:UInt8->Bool} {k:Nat} (ap:k < s.size) (h:∀j (hj:j < s.size),j < k->p s[j] = true) (hp:p s[k] = true):∀j (hj:j < s.size),j < k+1->p s[j] = true:=λj hj fI=>by
 rcases Nat.lt_or_ge j k with h1 | h1
 ·exact h j hj h1
 ·obtain rfl:j = k:=by omega
  exact hp
theorem apP (c:UInt8):((c.toNat:Int)).toNat.toUInt8 = c:=by simp
theorem IL (c:Int) (w:World):Calls Tryz.prog 171 #[.int .u8 c] w λe w'=>e = .returned (.bool (GL c))/\w' = w:=by
 go_enter Tryz.func171,Tryz.ntmps171;exact L5
theorem Gm (c:Int) (w:World):Calls Tryz.prog 164 #[.int .u8 c] w λe w'=>e = .returned (.bool (GL c))/\w' = w:=by
 go_enter Tryz.func164,Tryz.ntmps164;exact L5
theorem Q7 (s:ByteArray) (c:Int) (w:World):Calls Tryz.prog 220 #[.string s,.int .u8 c] w λe w'=>e = .returned (.int .i64 (Lib.indexByte s.data.toList c.toNat.toUInt8))/\w' = w:=by
 go_enter Tryz.func220,Tryz.ntmps220;go_wp2;rw [run_callFunc_extern Tryz.func241 U' U' U' (e:=Extern.BytealgIndexByte.indexByte) U',Lib.run_indexByteString];simp only [Result.andThen];rw [Oper.upon_value];go_wp2;go_ret
 exact ⟨rfl,rfl⟩
theorem aai (s:ByteArray) (c:Int) (w:World):Calls Tryz.prog 173 #[.string s,.int .u8 c] w λe w'=>e = .returned (.int .i64 (Lib.indexByte s.data.toList c.toNat.toUInt8))/\w' = w:=by
 go_enter Tryz.func173,Tryz.ntmps173;go_wp2_with fail
 refine (Q7 s c _).mono ?_;rintro e w' ⟨rfl,rfl⟩;go_wp2;go_ret
 exact ⟨rfl,rfl⟩
theorem aef (s o:ByteArray) (w:World) (hs:0 < s.size) (cO:(s.size:Int)<=1048576):Calls Tryz.prog 147 #[.string s,.string o] w λe w'=>e = .returned (.bool (GN o s))/\w' = w:=by
 go_enter Tryz.func147,Tryz.ntmps147;go_wp2_with fail
 go_loop [9] (λv=>∃(k:Nat),k<=s.size/\v = .int .i64 k/\Hid (∀j (hj:j < s.size),j < k->okB o s[j] = true)) (λv=>s.size - (intOf v).toNat)
 case atStart=>exact ⟨0,Nat.zero_le _,rfl,λj _ hj=>by omega⟩
 case round =>
  obtain ⟨k,hk,rfl,hall⟩:=hrel;by_cases ap:k < s.size
  ·cases h1:GL (s[k].toNat:Int) with
   | true =>
     have eN:okB o s[k] = true:=(by unfold okB;rw [h1];rfl);have H1:=I h1;have HN:=I (X4 ap hall.out eN);clear h1 eN;go_wp2_with (go_at_call 171;refine (IL (s[k].toNat:Int) _).mono ?_;rw [H1.out];rintro e w2 ⟨rfl,rfl⟩)
     exact En
   | false =>
     have Bi:=Lib.contains_iff_indexByte o.data.toList s[k];cases h2:o.data.toList.contains s[k] with
     | true =>
       rw [h2] at Bi;have rv:0<=Lib.indexByte o.data.toList ((s[k].toNat:Int)).toNat.toUInt8:=(by rw [apP];simpa using Bi.symm);have eN:okB o s[k] = true:=(by unfold okB;rw [h2];simp);have H1:=I h1;have HN:=I (X4 ap hall.out eN);clear h1 h2 Bi eN;generalize hgi:Lib.indexByte o.data.toList ((s[k].toNat:Int)).toNat.toUInt8 = gi at *;have UF:=I hgi;clear hgi;go_wp2_with (first | (go_at_call 171;refine (IL (s[k].toNat:Int) _).mono ?_;rw [H1.out];rintro e w2 ⟨rfl,rfl⟩) | (go_at_call 173;refine (aai o (s[k].toNat:Int) _).mono ?_;rw [UF.out];rintro e w3 ⟨rfl,rfl⟩))
       exact En
     | false =>
       rw [h2] at Bi;have rv:Lib.indexByte o.data.toList ((s[k].toNat:Int)).toNat.toUInt8 < 0:=(by rw [apP];simpa using Bi.symm);have eN:okB o s[k] = false:=(by unfold okB;rw [h1,h2];rfl);have br:GN o s = false:=(by unfold GN;rw [TM ap eN];simp);have HF:=I br;have H1:=I h1;clear h1 h2 Bi eN br;generalize hgi:Lib.indexByte o.data.toList ((s[k].toNat:Int)).toNat.toUInt8 = gi at *;have UF:=I hgi;clear hgi;go_wp2_with (first | (go_at_call 171;refine (IL (s[k].toNat:Int) _).mono ?_;rw [H1.out];rintro e w2 ⟨rfl,rfl⟩) | (go_at_call 173;refine (aai o (s[k].toNat:Int) _).mono ?_;rw [UF.out];rintro e w3 ⟨rfl,rfl⟩))
       go_ret
       exact ⟨by rw [HF.out];rfl,rfl⟩
  ·have bz:k = s.size:=J;subst bz;have ha:=YX (p:=okB o) (λj hj=>hall.out j hj hj);cases h1:GL (s[0].toNat:Int) with
   | false =>
     have br:GN o s = false:=(by unfold GN;rw [DF hs,h1];simp);have HF:=I br;have H1:=I h1;clear h1 br;go_wp2_with fail
     refine (IL (s[0].toNat:Int) _).mono ?_;rw [H1.out];rintro e w2 ⟨rfl,rfl⟩;go_wp2;go_ret
     exact ⟨by rw [HF.out];rfl,rfl⟩
   | true =>
     cases h2:GL (s[s.size - 1].toNat:Int)
     all_goals
      have br:GN o s = _:=(by unfold GN;rw [ha,DF hs,DF (show s.size - 1 < s.size by omega),h1,h2]);simp only [hs,decide_true,Bool.true_and,Bool.and_true,Bool.and_false] at br;have HF:=I br;have H1:=I h1;have H2:=I h2;clear h1 h2 br;go_wp2_with fail
      refine (IL (s[0].toNat:Int) _).mono ?_;rw [H1.out];rintro e w2 ⟨rfl,rfl⟩;go_wp2_with fail
      refine (IL (s[s.size - 1].toNat:Int) _).mono ?_;rw [H2.out];rintro e w2 ⟨rfl,rfl⟩;go_wp2;go_ret
      exact ⟨by rw [HF.out];rfl,rfl⟩
section
variable {β:Type} (lt:β->β->Bool)
def OM (y:β):List β->List β
 | []=>[y]
 | x :: xs=>if lt y x then y :: x :: xs else x :: OM y xs
def bd:List β->List β->List β
 | acc,[]=>acc
 | acc,y :: ys=>bd (OM lt y acc) ys
def fO:List β->List β->List β
 | [],r=>r
 | l,[]=>l
 | x :: l,y :: r=>if lt y x then y :: fO (x :: l) r else x :: fO l (y :: r)
termination_by l r=>l.length+r.length
structure dz:Prop where
 re:∀x,lt x x = false
 tr:∀x y z,lt x y = true->lt y z = true->lt x z = true
 neg:∀x y z,lt x y = false->lt y z = false->lt x z = false
def b4 (l:List β):Prop:=l.Pairwise λx y=>lt y x = false
variable {lt}
theorem dz.asym (W:dz lt) {x y:β} (h:lt x y = true):lt y x = false:=by
 cases h2:lt y x
 ·rfl
 ·have:=W.tr x y x h h2;rw [W.re] at this;cases this
theorem dz.left (W:dz lt) {x y z:β} (h:lt x y = true) (h2:lt z y = false):lt x z = true:=by
 cases h3:lt x z
 ·have:=W.neg x z y h3 h2;rw [this] at h;cases h
 ·rfl
theorem dz.right (W:dz lt) {x y z:β} (h:lt y x = false) (h2:lt y z = true):lt x z = true:=by
 cases h3:lt x z
 ·have:=W.neg y x z h h3;rw [this] at h2;cases h2
 ·rfl
theorem ig (r:List β):fO lt [] r = r:=by unfold fO;rfl
theorem gZ (l:List β):fO lt l [] = l:=by
 cases l with
 | nil=>exact ig []
 | cons x l=>unfold fO;rfl
theorem lK (x y:β) (l r:List β):fO lt (x :: l) (y :: r) = if lt y x then y :: fO lt (x :: l) r else x :: fO lt l (y :: r):=by
 conv=>lhs;unfold fO
theorem fU:∀(l r:List β),(fO lt l r).length = l.length+r.length
 | [],r=>by rw [ig];simp
 | x :: l,[]=>by rw [gZ];simp
 | x :: l,y :: r=>by
   rw [lK];split
   ·rw [List.length_cons,fU (x :: l) r];simp only [List.length_cons];omega
   ·rw [List.length_cons,fU l (y :: r)];simp only [List.length_cons];omega
termination_by l r=>l.length+r.length
theorem FV:∀(l1 r1:List β) (l2 r2:List β),(∀y∈r1,∀x∈l2,lt y x = true)->(∀y∈r2,∀x∈l1,lt y x = false)->fO lt (l1++l2) (r1++r2) = fO lt l1 r1++fO lt l2 r2
 | [],[],l2,r2,_,_=>by simp [ig]
 | [],y :: r1,l2,r2,h1,h2=>by
   have ih:=FV [] r1 l2 r2 (λz hz=>h1 z (List.mem_cons_of_mem _ hz)) (λ_ _ _ hx=>by cases hx);rw [ig] at ih |-;cases l2 with
   | nil=>simp only [List.append_nil,ig]
   | cons x l2 =>simp only [List.nil_append,List.cons_append] at ih |-;rw [lK,if_pos (h1 y (List.mem_cons_self ..) x (List.mem_cons_self ..)),ih]
 | x :: l1,[],l2,r2,h1,h2=>by
   have ih:=FV l1 [] l2 r2 (λ_ hz=>by cases hz) (λy hy z hz=>h2 y hy z (List.mem_cons_of_mem _ hz));rw [gZ] at ih |-;cases r2 with
   | nil=>simp only [List.append_nil,gZ]
   | cons y r2 =>simp only [List.nil_append,List.cons_append] at ih |-;rw [lK,if_neg (by rw [h2 y (List.mem_cons_self ..) x (List.mem_cons_self ..)];simp),ih]
 | x :: l1,y :: r1,l2,r2,h1,h2=>by
   simp only [List.cons_append];rw [lK,lK];split
   ·have ih:=FV (x :: l1) r1 l2 r2 (λz hz=>h1 z (List.mem_cons_of_mem _ hz)) h2;simp only [List.cons_append] at ih;rw [ih,List.cons_append]
   ·have ih:=FV l1 (y :: r1) l2 r2 h1 (λz hz w hw=>h2 z hz w (List.mem_cons_of_mem _ hw));simp only [List.cons_append] at ih;rw [ih,List.cons_append]
termination_by l1 r1=>l1.length+r1.length
theorem aeO {x:β} {r1 r2:List β} (h1:∀y∈r1,lt y x = true) (h2:∀y∈r2,lt y x = false):fO lt [x] (r1++r2) = r1++x :: r2:=by
 have h:=FV (lt:=lt) [] r1 [x] r2 (λy hy z hz=>by rw [List.mem_singleton.1 hz];exact h1 y hy) (λ_ _ _ hz=>by cases hz);rw [List.nil_append,ig] at h;rw [h];congr 1;cases r2 with
 | nil=>exact gZ _
 | cons y r2=>rw [lK,if_neg (by rw [h2 y (List.mem_cons_self ..)];simp),ig]
theorem UU {y:β} {l1 l2:List β} (h1:∀x∈l1,lt y x = false) (h2:∀x∈l2,lt y x = true):fO lt (l1++l2) [y] = l1++y :: l2:=by
 have h:=FV (lt:=lt) l1 [] l2 [y] (λ_ hz=>by cases hz) (λz hz x hx=>by rw [List.mem_singleton.1 hz];exact h1 x hx);rw [List.nil_append,gZ] at h;rw [h];congr 1;cases l2 with
 | nil=>exact ig _
 | cons x l2=>rw [lK,if_pos (h2 x (List.mem_cons_self ..)),gZ]
theorem xK (y:β):∀l:List β,OM lt y l = fO lt l [y]
 | []=>by rw [ig];rfl
 | x :: l=>by
   rw [OM,lK];split
   ·rw [gZ]
   ·rw [xK y l]
theorem MK {z:β} : ∀{l r:List β},z∈fO lt l r->z∈l∨z∈r
 | [],r,h=>by rw [ig] at h;exact .inr h
 | x :: l,[],h=>by rw [gZ] at h;exact .inl h
 | x :: l,y :: r,h=>by
   rw [lK] at h;split at h
   ·rcases List.mem_cons.1 h with rfl | h
    ·exact .inr (List.mem_cons_self ..)
    ·rcases MK h with h | h
     ·exact .inl h
     ·exact .inr (List.mem_cons_of_mem _ h)
   ·rcases List.mem_cons.1 h with rfl | h
    ·exact .inl (List.mem_cons_self ..)
    ·rcases MK h with h | h
     ·exact .inl (List.mem_cons_of_mem _ h)
     ·exact .inr h
termination_by l r=>l.length+r.length
theorem TV (W:dz lt):∀{l r:List β},b4 lt l->b4 lt r->b4 lt (fO lt l r)
 | [],r,_,h=>by rw [ig];exact h
 | x :: l,[],h,_=>by rw [gZ];exact h
 | x :: l,y :: r,hl,hr=>by
   have pq:=List.pairwise_cons.1 hl;have dE:=List.pairwise_cons.1 hr;rw [lK];split
   ·rename_i h;refine List.pairwise_cons.2 ⟨λz hz=>?_,TV W hl dE.2⟩;rcases MK hz with hz | hz
    ·rcases List.mem_cons.1 hz with rfl | hz
     ·exact W.asym h
     ·exact W.neg z x y (pq.1 z hz) (W.asym h)
    ·exact dE.1 z hz
   ·rename_i h;have h:lt y x = false:=(by simpa using h);refine List.pairwise_cons.2 ⟨λz hz=>?_,TV W pq.2 hr⟩;rcases MK hz with hz | hz
    ·exact pq.1 z hz
    ·rcases List.mem_cons.1 hz with rfl | hz
     ·exact h
     ·exact W.neg z y x (dE.1 z hz) h
termination_by l r=>l.length+r.length
theorem IK (W:dz lt):∀(a b c:List β),fO lt (fO lt a b) c = fO lt a (fO lt b c)
 | [],b,c=>by simp only [ig]
 | a,[],c=>by simp only [ig,gZ]
 | a,b,[]=>by simp only [gZ]
 | x :: a,y :: b,z :: c=>by
   rw [lK x y,lK y z];by_cases h1:lt y x = true
   ·rw [if_pos h1];by_cases h2:lt z y = true
    ·rw [if_pos h2,lK y z,if_pos h2,lK x z,if_pos (W.tr z y x h2 h1),<- IK W (x :: a) (y :: b) c,lK x y,if_pos h1]
    ·rw [if_neg h2,lK y z,if_neg h2,lK x y,if_pos h1,IK W (x :: a) b (z :: c)]
   ·rw [if_neg h1];by_cases h2:lt z y = true
    ·rw [if_pos h2];by_cases h3:lt z x = true
     ·rw [lK x z,if_pos h3,lK x z,if_pos h3,<- IK W (x :: a) (y :: b) c,lK x y,if_neg h1]
     ·rw [lK x z,if_neg h3,lK x z,if_neg h3,IK W a (y :: b) (z :: c),lK y z,if_pos h2]
    ·have h3:¬lt z x = true:=by
      have e1:lt z y = false:=(by simpa using h2);have e2:lt y x = false:=(by simpa using h1);rw [W.neg z y x e1 e2];simp
     rw [if_neg h2,lK x z,if_neg h3,lK x y,if_neg h1,IK W a (y :: b) (z :: c),lK y z,if_neg h2]
termination_by a b c=>a.length+b.length+c.length
theorem UW:∀(ys acc:List β),bd lt acc ys = ys.foldl (λl y=>fO lt l [y]) acc
 | [],_=>rfl
 | y :: ys,acc=>by rw [bd,xK,UW ys];rfl
theorem Yv (W:dz lt):∀(ys acc:List β),bd lt acc ys = fO lt acc (bd lt [] ys)
 | [],acc=>by rw [bd,bd,gZ]
 | y :: ys,acc=>by
   rw [bd,bd,Yv W ys (OM lt y acc),Yv W ys (OM lt y []),xK,xK,ig,IK W]
theorem acz (W:dz lt) (xs ys:List β):bd lt [] (xs++ys) = fO lt (bd lt [] xs) (bd lt [] ys):=by
 rw [<- Yv W,UW,UW,UW,List.foldl_append]
theorem yc (W:dz lt):∀(ys acc:List β),b4 lt acc->b4 lt (bd lt acc ys)
 | [],_,h=>h
 | y :: ys,acc,h=>by
   rw [bd];refine yc W ys _ ?_;rw [xK];exact TV W h (List.pairwise_singleton _ _)
theorem rD:∀(ys acc:List β),(bd lt acc ys).length = acc.length+ys.length
 | [],_=>rfl
 | y :: ys,acc=>by rw [bd,rD ys,xK,fU];simp only [List.length_cons,List.length_nil];omega
theorem aql (W:dz lt) {l1 l2 r1 r2:List β} (hl:b4 lt (l1++l2)) (hr:b4 lt (r1++r2)) (h1:r1 = []∨l2 = []∨∃r1' y x l2',r1 = r1'++[y]/\l2 = x :: l2'/\lt y x = true)
 (h2:l1 = []∨r2 = []∨∃l1' x y r2',l1 = l1'++[x]/\r2 = y :: r2'/\lt y x = false):fO lt (l1++l2) (r1++r2) = fO lt l1 r1++fO lt l2 r2:=by
 refine FV l1 r1 l2 r2 (λy hy x hx=>?_) (λy hy x hx=>?_)
 ·rcases h1 with rfl | rfl | ⟨r1',y0,x0,l2',rfl,rfl,h⟩
  ·cases hy
  ·cases hx
  ·have a:lt y0 y = false:=by
    rcases List.mem_append.1 hy with hy | hy
    ·have:=(List.pairwise_append.1 (List.pairwise_append.1 hr).1).2.2 y hy y0 (List.mem_singleton.2 rfl);exact this
    ·rw [List.mem_singleton.1 hy,W.re]
   have b:lt x x0 = false:=by
    rcases List.mem_cons.1 hx with rfl | hx
    ·exact W.re x
    ·exact (List.pairwise_cons.1 (List.pairwise_append.1 hl).2.1).1 x hx
   exact W.left (W.right a h) b
 ·rcases h2 with rfl | rfl | ⟨l1',x0,y0,r2',rfl,rfl,h⟩
  ·cases hx
  ·cases hy
  ·have a:lt x0 x = false:=by
    rcases List.mem_append.1 hx with hx | hx
    ·exact (List.pairwise_append.1 (List.pairwise_append.1 hl).1).2.2 x hx x0 (List.mem_singleton.2 rfl)
    ·rw [List.mem_singleton.1 hx,W.re]
   have b:lt y y0 = false:=by
    rcases List.mem_cons.1 hy with rfl | hy
    ·exact W.re y
    ·exact (List.pairwise_cons.1 (List.pairwise_append.1 hr).2.1).1 y hy
   exact W.neg y x0 x (W.neg y y0 x0 b h) a
def runs (lt:β->β->Bool) (s:Nat) (xs:List β):List β:=if h:xs.length<=s∨s = 0 then bd lt [] xs else bd lt [] (xs.take s)++runs lt s (xs.drop s)
termination_by xs.length
decreasing_by rw [List.length_drop];omega
theorem zo {s:Nat} {xs:List β} (h:xs.length<=s):runs lt s xs = bd lt [] xs:=by unfold runs;rw [dif_pos (.inl h)]
theorem amZ (s:Nat):runs lt s ([]:List β) = []:=by rw [zo (Nat.zero_le _)];rfl
theorem Ky {s:Nat} (hs:0 < s) (xs:List β):runs lt s xs = bd lt [] (xs.take s)++runs lt s (xs.drop s):=by
 by_cases h:xs.length<=s
 ·rw [List.take_of_length_le h,List.drop_of_length_le h,amZ,List.append_nil,zo h]
 ·conv=>lhs;unfold runs
  rw [dif_neg J]
theorem am0 (W:dz lt) {s:Nat} (hs:0 < s) (ys:List β):runs lt s ys = bd lt [] (ys.take s)++(bd lt [] ((ys.drop s).take s)++runs lt s (ys.drop (2 * s))) /\
 fO lt (bd lt [] (ys.take s)) (bd lt [] ((ys.drop s).take s)) = bd lt [] (ys.take (2 * s)):=by
 constructor
 ·rw [Ky hs ys,Ky hs (ys.drop s),List.drop_drop,show s+s = 2 * s by omega]
 ·rw [<- acz W];congr 1;rw [show 2 * s = s+s by omega,List.take_add]
theorem ajf (W:dz lt) {s:Nat} (hs:0 < s) {ys:List β} (h1:s < ys.length) (h2:ys.length<=2 * s):runs lt s ys = bd lt [] (ys.take s)++bd lt [] (ys.drop s) /\
 fO lt (bd lt [] (ys.take s)) (bd lt [] (ys.drop s)) = runs lt (2 * s) ys:=by
 constructor
 ·rw [Ky hs ys,zo (xs:=ys.drop s) Iq]
 ·rw [<- acz W,List.take_append_drop,zo (s:=2 * s) h2]
theorem alh (W:dz lt) {y:β} {s1 s2:List β} (hs:b4 lt (s1++s2)) (h2:∀x∈s2,lt y x = true) (h1:s1 = []∨∃s' x,s1 = s'++[x]/\lt y x = false):OM lt y (s1++s2) = s1++y :: s2:=by
 rw [xK];refine UU (λx hx=>?_) h2;rcases h1 with rfl | ⟨s',x0,rfl,h⟩
 ·cases hx
 ·rcases List.mem_append.1 hx with hx | hx
  ·exact W.neg y x0 x h ((List.pairwise_append.1 (List.pairwise_append.1 hs).1).2.2 x hx x0 (List.mem_singleton.2 rfl))
  ·rw [List.mem_singleton.1 hx];exact h
theorem V3 (xs:List β) (y:β):bd lt [] (xs++[y]) = OM lt y (bd lt [] xs):=by
 rw [UW,UW,List.foldl_append,xK];rfl
end
variable {β:Type}
structure ot (lt:β->β->Bool):Prop where
 re:∀x,lt x x = false
 trans:∀x y z,lt x y = true->lt y z = true->lt x z = true
 xR:∀x y,lt x y = false->lt y x = false->x = y
theorem ot.asym {lt:β->β->Bool} (T:ot lt) {x y:β} (h:lt x y = true):lt y x = false:=by
 cases h2:lt y x with
 | false=>rfl
 | true=>have:=T.trans x y x h h2;rw [T.re] at this;cases this
theorem ot.swo {lt:β->β->Bool} (T:ot lt):Go.Sort.SWO lt:=⟨T.re,T.trans,λx y z h1 h2=>by
 cases h3:lt x z with
 | false=>rfl
 | true =>
   exfalso;cases h4:lt y x with
   | false=>rw [T.xR x y h1 h4] at h3;rw [h3] at h2;cases h2
   | true=>have:=T.trans y x z h4 h3;rw [this] at h2;cases h2⟩
def de (lt:β->β->Bool) (l:List β):Prop:=l.Pairwise λx y=>lt x y = true
theorem de.eq {lt:β->β->Bool} (T:ot lt):∀{a b:List β},de lt a->de lt b->(∀x,x∈a↔x∈b)->a = b
 | [],[],_,_,_=>rfl
 | [],y :: b,_,_,h=>absurd ((h y).2 (List.mem_cons_self ..)) (List.not_mem_nil)
 | x :: a,[],_,_,h=>absurd ((h x).1 (List.mem_cons_self ..)) (List.not_mem_nil)
 | x :: a,y :: b,ha,hb,h=>by
   unfold de at ha hb;rw [List.pairwise_cons] at ha hb;have no:∀{u:β} {l:List β},(∀z∈l,lt u z = true)->u∉l:=λhl hu=>by have:=hl _ hu;rw [T.re] at this;cases this
   have xS:x = y:=by
    rcases List.mem_cons.1 ((h x).1 (List.mem_cons_self ..)) with e | e
    ·exact e
    ·rcases List.mem_cons.1 ((h y).2 (List.mem_cons_self ..)) with e2 | e2
     ·exact e2.symm
     ·have:=T.trans _ _ _ (hb.1 x e) (ha.1 y e2);rw [T.re] at this;cases this
   subst xS;congr 1;refine de.eq T ha.2 hb.2 λz=>⟨λhz=>?_,λhz=>?_⟩
   ·rcases List.mem_cons.1 ((h z).1 (List.mem_cons_of_mem _ hz)) with e | e
    ·subst e;exact absurd hz (no ha.1)
    ·exact e
   ·rcases List.mem_cons.1 ((h z).2 (List.mem_cons_of_mem _ hz)) with e | e
    ·subst e;exact absurd hz (no hb.1)
    ·exact e
def eA (lt:β->β->Bool) (x:β):List β->List β
 | []=>[x]
 | y :: r=>if lt y x then y :: eA lt x r else if lt x y then x :: y :: r else y :: r
theorem SX {lt:β->β->Bool} (T:ot lt) (x:β):∀(r:List β) (z:β),z∈eA lt x r↔z = x∨z∈r
 | [],z=>by simp [eA]
 | y :: r,z=>by
   unfold eA;split
   ·rw [List.mem_cons,SX T x r z,List.mem_cons];exact I5
   ·split
    ·simp
    ·rename_i h1 h2;have e:=T.xR x y QN (by simpa using h1);subst e;simp
theorem Zs {lt:β->β->Bool} (T:ot lt) (x:β):∀{r:List β},de lt r->de lt (eA lt x r)
 | [],_=>List.pairwise_singleton _ _
 | y :: r,h=>by
   unfold de at h;rw [List.pairwise_cons] at h;unfold eA;split
   ·rename_i h1;refine List.pairwise_cons.2 ⟨λz hz=>?_,Zs T x h.2⟩;rcases (SX T x r z).1 hz with e | e
    ·rw [e];exact h1
    ·exact h.1 z e
   ·split
    ·rename_i h2;refine List.pairwise_cons.2 ⟨λz hz=>?_,List.pairwise_cons.2 h⟩;rcases List.mem_cons.1 hz with e | e
     ·rw [e];exact h2
     ·exact T.trans _ _ _ h2 (h.1 z e)
    ·exact List.pairwise_cons.2 h
theorem QP {lt:β->β->Bool} {y:β} : ∀(s1 s2:List β),(∀z∈s1,lt z y = true)->eA lt y (s1++s2) = s1++eA lt y s2
 | [],_,_=>rfl
 | z :: s1,s2,h=>by
   rw [List.cons_append,eA,if_pos (h z (List.mem_cons_self ..)),QP s1 s2 λz' hz=>h z' (List.mem_cons_of_mem _ hz)];rfl
theorem QQ {lt:β->β->Bool} {y:β} (s1:List β) (h:∀z∈s1,lt z y = true):eA lt y (s1++[]) = s1++y :: []:=by rw [QP s1 [] h];rfl
theorem QR {lt:β->β->Bool} {y z:β} (s1 s2:List β) (h:∀z∈s1,lt z y = true) (h1:lt z y = false) (h2:lt y z = true):eA lt y (s1++z :: s2) = s1++y :: z :: s2:=by
 rw [QP s1 _ h,eA,if_neg (by rw [h1];simp),if_pos h2]
theorem QT {lt:β->β->Bool} {y z:β} (s1 s2:List β) (h:∀z∈s1,lt z y = true) (h1:lt z y = false) (h2:lt y z = false):eA lt y (s1++z :: s2) = s1++z :: s2:=by
 rw [QP s1 _ h,eA,if_neg (by rw [h1];simp),if_neg (by rw [h2];simp)]
def dx (lt:β->β->Bool) (acc:List β):List β->List β
 | []=>acc
 | y :: r=>dx lt (eA lt y acc) r
theorem I6 (lt:β->β->Bool) (y:β):∀(xs acc:List β),dx lt acc (xs++[y]) = eA lt y (dx lt acc xs)
 | [],_=>rfl
 | x :: xs,acc=>I6 lt y xs (eA lt x acc)
theorem SZ {lt:β->β->Bool} (T:ot lt):∀(xs:List β) {acc:List β},de lt acc->de lt (dx lt acc xs)
 | [],_,h=>h
 | x :: xs,_,h=>SZ T xs (Zs T x h)
theorem Cr {lt:β->β->Bool} (T:ot lt) (z:β):∀(xs acc:List β),z∈dx lt acc xs↔z∈acc∨z∈xs
 | [],acc=>by simp [dx]
 | x :: xs,acc=>by
   unfold dx;rw [Cr T z xs,SX T,List.mem_cons];exact ⟨λh=>by rcases h with (h | h) | h <;> simp [h],λh=>by rcases h with h | h | h <;> simp [h]⟩
theorem Zt (lt:β->β->Bool) (x:β):∀(r:List β),(eA lt x r).length<=r.length+1
 | []=>Nat.le_refl _
 | y :: r=>by unfold eA;split;· simp [Zt lt x r]
              ·split <;> simp
theorem xT (lt:β->β->Bool):∀(xs acc:List β),(dx lt acc xs).length<=acc.length+xs.length
 | [],_=>by simp [dx]
 | x :: xs,acc=>by have h1:=xT lt xs (eA lt x acc);have h2:=Zt lt x acc;unfold dx;simp only [List.length_cons];omega
theorem Zu (f:β->Nat) (lt:β->β->Bool) (x:β):∀(r:List β),((eA lt x r).map f).sum<=f x+(r.map f).sum
 | []=>by simp [eA]
 | y :: r=>by
   have:=Zu f lt x r;unfold eA;split
   ·exact tL
   ·split <;> simp only [List.map_cons,List.sum_cons] <;> omega
theorem I7 (f:β->Nat) (lt:β->β->Bool):∀(xs acc:List β),((dx lt acc xs).map f).sum<=(acc.map f).sum+(xs.map f).sum
 | [],_=>by simp [dx]
 | x :: xs,acc=>by
   have h1:=I7 f lt xs (eA lt x acc);have h2:=Zu f lt x acc;unfold dx;exact tL
def jt (ne:β->β->Bool) (D:List β):Nat->Bool
 | 0=>true
 | q+1=>match D[q]?,D[q+1]? with | some x,some y=>ne x y | _,_=>false
def kept (ne:β->β->Bool) (D:List β):Nat->List β
 | 0=>[]
 | p+1=>if jt ne D p then kept ne D p++D[p]?.toList else kept ne D p
theorem Ai {ne:β->β->Bool} {D:List β} {p:Nat} {x y:β} (h0:0 < p) (hx:D[p - 1]? = some x) (hy:D[p]? = some y):jt ne D p = ne x y:=by
 obtain ⟨q,rfl⟩:∃q,p = q+1:=⟨p - 1,J⟩;rw [Nat.add_sub_cancel] at hx;simp only [jt,hx,hy]
theorem ft (ne:β->β->Bool) (D:List β) (j:Nat) (hj:j < 1):jt ne D j = true:=by
 obtain rfl:j = 0:=by omega
 rfl
theorem S4 {ne:β->β->Bool} {D:List β} {p:Nat} {y:β} (hy:D[p]? = some y) (h:jt ne D p = true):kept ne D (p+1) = kept ne D p++[y]:=by rw [kept,if_pos h,hy];rfl
theorem I8 {ne:β->β->Bool} {D:List β} {p:Nat} (h:jt ne D p = false):kept ne D (p+1) = kept ne D p:=by rw [kept,if_neg (by rw [h];simp)]
theorem QU (ne:β->β->Bool) (D:List β):∀p,(kept ne D p).Sublist (D.take p)
 | 0=>by simp [kept]
 | p+1=>by
   have h:=QU ne D p;rw [List.take_add_one];unfold kept;split
   ·exact h.append (List.Sublist.refl _)
   ·exact h.trans (List.sublist_append_left _ _)
theorem tM (ne:β->β->Bool) (D:List β) (p:Nat):(kept ne D p).length<=p:=Nat.le_trans (QU ne D p).length_le Ak
theorem aES {ne:β->β->Bool} {D:List β} {p:Nat} {z:β} (h:z∈kept ne D p):z∈D:=List.mem_of_mem_take ((QU ne D p).subset h)
theorem I9 {ne:β->β->Bool} {D:List β} : ∀{p:Nat},(∀j,j < p->jt ne D j = true)->kept ne D p = D.take p
 | 0,_=>by simp [kept]
 | p+1,h=>by
   rw [List.take_add_one,kept,if_pos (h p (Nat.lt_succ_self p)),I9 λj hj=>h j (Nat.lt_succ_of_lt hj)]
theorem Ja {γ:Type} (f:γ->β) (ne:β->β->Bool) (D:List γ):∀p,(kept (λx y=>ne (f x) (f y)) D p).map f = kept ne (D.map f) p
 | 0=>rfl
 | p+1=>by
   have hk:jt (λx y=>ne (f x) (f y)) D p = jt ne (D.map f) p:=by
    cases p with
    | zero=>rfl
    | succ q =>simp only [jt,List.getElem?_map];cases D[q]? <;> cases D[q+1]? <;> rfl
   unfold kept;rw [hk];split
   ·rw [List.map_append,Ja f ne D p,List.getElem?_map];cases D[p]? <;> rfl
   ·exact Ja f ne D p
structure py (ne:β->β->Bool) (D:List β) (p k:Nat) (L:List β):Prop where
 size:L.length = D.length
 at_:k = (kept ne D p).length
 lt:k < p
 low:L.take k = kept ne D p
 high:∀j,p - 1<=j->L[j]? = D[j]?
theorem py.start {ne:β->β->Bool} {D:List β} {k:Nat} (hk:k < D.length) (h:∀j,j < k->jt ne D j = true) (hn:jt ne D k = false):py ne D (k+1) k D:=by
 have e:=I9 h;refine ⟨rfl,?_,Nat.lt_succ_self k,?_,λj _=>rfl⟩
 ·rw [I8 hn,e,List.length_take];omega
 ·rw [I8 hn,e]
theorem py.skip {ne:β->β->Bool} {D L:List β} {p k:Nat} (h:py ne D p k L) (hn:jt ne D p = false):py ne D (p+1) k L :=
 ⟨h.size,by rw [I8 hn];exact h.at_,Nat.lt_succ_of_lt h.lt,by rw [I8 hn];exact h.low,λj hj=>h.high j J⟩
theorem py.keep {ne:β->β->Bool} {D L:List β} {p k:Nat} {y:β} (h:py ne D p k L) (hy:D[p]? = some y) (hn:jt ne D p = true):py ne D (p+1) (k+1) (L.set k y):=by
 have hp:=(List.getElem?_eq_some_iff.1 hy).1;have h1:=h.lt;have h2:=h.size;refine ⟨by rw [List.length_set];exact h.size,by rw [S4 hy hn,List.length_append,<- h.at_];rfl,Nat.succ_lt_succ h.lt,?_,λj hj=>?_⟩
 ·rw [S4 hy hn,<- h.low,List.take_add_one,List.take_set_of_le (Nat.le_refl k),List.getElem?_set_self J];rfl
 ·rw [List.getElem?_set_ne J];exact h.high j J
theorem jC {lt:β->β->Bool} (T:ot lt) {ne:β->β->Bool} (bI:∀x y,ne x y = true↔x≠y) {xs l:List β} (hp:l.Perm xs) (hs:l.Pairwise (λx y=>lt y x = false)):kept ne l l.length = dx lt [] xs:=by
 have kn:=List.pairwise_iff_getElem.1 hs;have key:∀p,p<=l.length->de lt (kept ne l p)/\∀z,z∈kept ne l p↔z∈l.take p:=by
  intro p;induction p with
  | zero=>intro _;exact ⟨List.Pairwise.nil,λz=>by simp [kept]⟩
  | succ p ih =>
    intro hl;obtain ⟨h1,h2⟩:=ih J;have hy:l[p]? = some l[p]:=List.getElem?_eq_getElem J;have le:∀z∈l.take p,lt l[p] z = false:=λz hz=>by
     obtain ⟨j,hj,rfl⟩:=List.getElem_of_mem hz;rw [List.getElem_take];rw [List.length_take] at hj;exact kn j p J J J
    cases hk:jt ne l p with
    | true =>
      rw [S4 hy hk];refine ⟨List.pairwise_append.2 ⟨h1,List.pairwise_singleton _ _,λz hz y eI=>?_⟩,λz=>by rw [List.mem_append,h2 z,List.take_add_one,List.mem_append,hy];rfl⟩;rw [List.mem_singleton.1 eI];have ca:=(h2 z).1 hz;cases td:lt z l[p] with
      | true=>rfl
      | false =>
        exfalso;have e:=T.xR z l[p] td (le z ca);obtain ⟨j,hj,Jb⟩:=List.getElem_of_mem ca;rw [List.getElem_take] at Jb;rw [List.length_take] at hj;have tN:0 < p:=J;rw [Ai tN (List.getElem?_eq_getElem J) hy] at hk;refine (bI _ _).1 hk (T.xR _ _ ?_ (kn (p - 1) p J J J));rw [<- e,<- Jb];by_cases ej:j = p - 1
        ·subst ej;exact T.re _
        ·exact kn j (p - 1) J J J
    | false =>
      rw [I8 hk];refine ⟨h1,λz=>?_⟩;rw [h2 z,List.take_add_one,List.mem_append,hy];refine ⟨Or.inl,λh=>?_⟩;rcases h with h | h
      ·exact h
      ·simp only [Option.toList_some,List.mem_singleton] at h;have tN:0 < p:=by
        rcases Nat.eq_zero_or_pos p with h0 | h0
        ·subst h0;simp [jt] at hk
        ·exact h0
       rw [Ai tN (List.getElem?_eq_getElem J) hy] at hk;have e:l[p - 1] = l[p]:=Classical.byContradiction λhh=>by rw [(bI _ _).2 hh] at hk;cases hk
       rw [h,<- e];exact List.mem_of_getElem? (i:=p - 1) (by rw [List.getElem?_take];simp only [show p - 1 < p by omega,if_true];exact List.getElem?_eq_getElem _)
 obtain ⟨h1,h2⟩:=key l.length (Nat.le_refl _);exact de.eq T h1 (SZ T xs List.Pairwise.nil) λz=>by
  rw [h2 z,List.take_length,Cr T z,hp.mem_iff];simp
end Go.Proofs.YtdegaofigemegaaGreat
