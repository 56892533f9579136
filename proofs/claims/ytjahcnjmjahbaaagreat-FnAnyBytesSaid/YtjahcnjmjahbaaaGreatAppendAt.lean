/- append of one element, and where the new row lies; several rows of the call's own side by side; a row read as a slice. No condition. -/
import Derived.Test.YtjahcnjmjahbaaaGreatData
import Derived.Lib.Small
import Derived.Lib.Bytealg
namespace Go.Proofs.YtjahcnjmjahbaaaGreat
open Go.ChangeShapes Go.WideShapes Go.ChangeAt Go.RowKit
set_option linter.unusedVariables false
set_option linter.unusedSimpArgs false
set_option maxHeartbeats 400000
set_option maxRecDepth 100000
theorem mG {w w':World} {B e size n:Nat} {v:Value} {xs:List Value} (h:w.ownsRow B e size v n xs) (hb:Below w.heap.size w w'):w'.ownsRow B e size v n xs :=
 h.kept (row:=none) ⟨hb.os,hb.tape,hb.output,hb.size,λk hk _=>hb.block k hk⟩ (by cases hv:v.ownBlock <;> simp)
theorem vP {w:World} {B B' e size n:Nat} {v:Value} {xs:List Value} (h:w.ownsRow B e size v n xs) (hB:B'<=B):w.ownsRow B' e size v n xs:=by
 refine ⟨h.1,?_⟩;rcases h.2 with h | ⟨g,cap,bp,h1,h2,h3⟩
 ·exact .inl h
 ·exact .inr ⟨g,cap,bp,h1,Nat.le_trans hB h2,h3⟩
def DK (u v:Value):Prop:=u.ownBlock = none∨u.ownBlock≠v.ownBlock
theorem DK.symm {u v:Value} (h:DK u v):DK v u:=by
 unfold DK at *;rcases h with h | h
 ·cases hv:v.ownBlock with
  | none=>exact .inl rfl
  | some k=>right;rw [h];simp
 ·exact .inr (Ne.symm h)
theorem DK.grow {u u' v:Value} {w:World} {B e size n:Nat} {xs:List Value} (h:DK u v) (hv:w.ownsRow B e size v n xs) {N:Nat} (hN:w.heap.size<=N) (cD:u'.ownBlock = u.ownBlock∨u'.ownBlock = some N):DK u' v:=by
 rcases cD with cD | cD
 ·unfold DK at *;rw [cD];exact h
 ·right;rw [cD];intro e;have:=hv.lt N e.symm;omega
section
variable {P:Program} {t e:TypeId} {z:Value} {size bytes:Nat}
theorem uf (hE:DL P t e z size bytes) {ops:Array Oper} {rest:List Oper} {o:Oper} {a:Act} {Q:Exit->Act->World->Prop} (vf:o.guard = none) (s x:Operand)
 (ho:o.op = .call { callee:=.builtin .append,args:=#[s,x],argTypes:=#[t,t] })
 (w:World) (base:Nat) (v:Value) (n:Nat) (xs:List Value) (ar:w.ownsRow base e size v n xs) (hs:a.eval s = v)
 (cs:List Value) (hx:a.eval x = .slice (some ⟨w.heap.size,0,none⟩) 1 1) (hl:cs.length = size) (h1:∀u∈cs,u.oneCell' = true)
 (hn:n<=2097152) (mS:bytes<=4096) (dl:base<=w.heap.size)
 (h:∀v' w',w'.ownsRow base e size v' (n+1) (xs++cs)->w.grownBy w' v.ownBlock->w.heap.size+1<=w'.heap.size->(v'.ownBlock = v.ownBlock∨v'.ownBlock = some (w.heap.size+1))->wpList P ops Q rest (a.put o.dst v') w'):wpList P ops Q (o :: rest) a (w.alloc (.cells cs.toArray e)):=by
 obtain ⟨ht,hi0,kX,eJ⟩:=hE;obtain ⟨i,hi,hz,hsize,hb⟩:=info_parts hi0;have ot:(n+1) * bytes<=2097153 * 4096:=Nat.mul_le_mul J mS;refine wpList_append_own_at (w.alloc (.cells cs.toArray e)) vf s x t ho base e i z size bytes ht hi hz hsize hb kX eJ v n xs hs (ar.alloc _) ⟨w.heap.size,0,none⟩ 1 1 cs hx J ?_ h1 jp J (by simp;omega) ?_
 ·exact sr
 ·intro v' w' mL hg _ cD;refine h v' w' mL ⟨hg.os,hg.tape,hg.output,Nat.le_trans S' hg.size,λk hk bN=>?_⟩ avU (by simpa using cD);rw [hg.block k (by simp;omega) bN];exact Below.heap_alloc _ _ _ hk
end
theorem Sl.oJ {α:Type} [bd α] {w:World} {B:Nat} {e:TypeId} {v:Value} {xs:List α} {ds:List Value} {F:List Nat} (h0:w.ownsRow B e (bd.size α) v xs.length ds) (h:jo w xs ds F):∃A c G,v = .slice A xs.length c/\Sl w xs A c G:=by
 rcases h0 with ⟨hl,⟨rfl,hn⟩ | ⟨g,cap,bp,rfl,hb,hh,eC,hm,bS,ht⟩⟩
 ·obtain rfl:xs = []:=List.eq_nil_of_length_eq_zero hn;exact ⟨none,0,[],rfl,Sl.nil w none 0 (Nat.zero_le _)⟩
 ·have hg:g < w.heap.size:=by
   exact Mn
  refine ⟨_,cap,g :: F,rfl,⟨_,cap,F,ds,rfl,eC,hm,h,.inr ⟨g,0,rfl,rfl,hg,λj u hu=>?_⟩⟩⟩;exact L7
theorem Fv (w:World):∀(xs:List Int),(∀x∈xs,aR x)->jo w xs (xs.map λn=>.int .i64 n) []
 | [],_=>⟨rfl,rfl⟩
 | x :: xs,h=>⟨[.int .i64 x],_,[],[],rfl,rfl,jL w x (h x (List.mem_cons_self ..)),Fv w xs λy hy=>h y (List.mem_cons_of_mem _ hy)⟩
theorem atB:(Tryz.prog.info? 3).map (λi=>(i.zero,i.size,i.bytes)) = some (some (.int .i64 0),1,8):=by kernel_rfl
theorem TH:DL Tryz.prog 109 3 (.int .i64 0) 1 8:=⟨Tryz.underlying109,atB,rfl,J⟩
theorem EI (x y:Int) (w:World):Calls Tryz.prog 100 #[.int .i64 x,.int .i64 y] w λe w'=>e = .returned (.int .i64 (Lib.compareInt x y))/\w' = w:=by
 go_enter Tryz.func100,Tryz.ntmps100;go_wp2;all_goals (go_ret;refine ⟨?_,rfl⟩;unfold Lib.compareInt;(repeat' split) <;> first | rfl | (exfalso;omega))
def Qa:List Int->Int
 | []=>0
 | x :: xs=>if x = 0 then Qa xs else x
theorem aqF {xs:List Int} {k:Nat} (h:k < xs.length):Qa (xs.drop k) = if xs[k] = 0 then Qa (xs.drop (k+1)) else xs[k]:=by
 rw [<- List.getElem_cons_drop h];rfl
theorem WH (xs:List Int) (A:Option Addr) (n c:Nat) (F:List Nat) (w:World) (h:Sl w xs A c F) (hn:n = xs.length) (hl:(xs.length:Int)<=1048576) :
 Calls Tryz.prog 99 #[.slice A n c] w λe w'=>e = .returned (.int .i64 (Qa xs))/\w' = w:=by
 subst hn;go_enter Tryz.func99,Tryz.ntmps99;go_wp2_with fail
 go_slots
 go_loop [8] (λi=>∃k:Nat,k<=xs.length/\i = .int .i64 k/\Hid (Qa xs = Qa (xs.drop k))) (λi=>xs.length - (intOf i).toNat)
 case atStart=>exact ⟨0,Nat.zero_le _,rfl,rfl⟩
 case round =>
  obtain ⟨k,hk,rfl,HO⟩:=hrel;by_cases am:k < xs.length
  ·obtain ⟨b,o,ck,Fk,rfl,o9,hbs,hr,bm,hc⟩:=h.get am;obtain ⟨aq,su,hI⟩:=hr;subst aq su;have q0:w.cell? ⟨b,o+k,none⟩ = some (.int .i64 xs[k]):=(by have:=hc 0 _ rfl;rwa [show o+(k * bd.size Int+0) = o+k from by show o+(k * 1+0) = _;omega] at this);clear hc;have hd:=aqF am;by_cases h0:xs[k] = 0
   ·rw [if_pos h0] at hd;have HN:=I (HO.out.trans hd);clear hd;have fR:(xs[k] == 0) = true:=(by simp [h0]);go_wp2;exact ⟨⟨k+1,J,N',HN.out⟩,by simp [intOf];omega⟩
   ·rw [if_neg h0] at hd;have HN:=I (HO.out.trans hd);clear hd;have fR:(xs[k] == 0) = false:=(by simp [h0]);exact sE
  ·have bs:k = xs.length:=J;subst bs;have ho:=HO.out;rw [List.drop_length] at ho;have HN:=I ho;clear ho;exact sE
theorem BU (a b:Int):-1<=Lib.compareInt a b/\Lib.compareInt a b<=1:=by
 unfold Lib.compareInt;repeat' split
 all_goals omega
theorem Sl.Va (W:World) (xs:List Int) (t:TypeId) (h:∀x∈xs,aR x) (hl:xs.length<=maxLen):Sl (W.alloc (.cells (xs.map λn=>Value.int .i64 n).toArray t)) xs (some ⟨W.heap.size,0,none⟩) xs.length [W.heap.size] :=
 ⟨_,_,[],xs.map λn=>.int .i64 n,rfl,Nat.le_refl _,hl,Fv _ xs h,.inr ⟨W.heap.size,0,rfl,rfl,S',λj u hu=>by
   rw [Nat.zero_add,cell_of_row _ _ _ _ _ _ (heap_alloc_new W _)]
   simpa using hu⟩⟩
theorem Sl.WK {α:Type} [bd α] {w:World} {xs:List α} {A:Option Addr} {c:Nat} {F:List Nat} (h:Sl w xs A c F):Sl w.drew xs A c F:=h.frame (λ_ _=>rfl) (Nat.le_refl _)
theorem aR.small {n:Int} (h:-1<=n/\n<=1):aR n:=by unfold aR;omega
theorem Sl.zP (W:World) (a b c:Int) (t:TypeId) (ha:aR a) (hb:aR b) (hc:aR c) (N:Nat) (hN:W.heap.size = N):Sl (W.alloc (.cells #[.int .i64 a,.int .i64 b,.int .i64 c] t)) [a,b,c] (some ⟨N,0,none⟩) 3 [N]:=by
 subst hN;exact Sl.Va W [a,b,c] t (by intro x hx;simp only [List.mem_cons,List.not_mem_nil,or_false] at hx;rcases hx with rfl | rfl | rfl <;> assumption) (by unfold maxLen;simp)
theorem abm (a b:ByteArray) (w:World):Calls Tryz.prog 199 #[.string a,.string b] w λe w'=>e = .returned (.int .i64 (Lib.compareBytes a.data.toList b.data.toList))/\w' = w:=by
 go_enter Tryz.func199,Tryz.ntmps199;go_wp2;rw [run_callFunc_extern Tryz.func220 U' U' U' (e:=Extern.BytealgCompare.compare) U',Lib.run_compareString];simp only [Result.andThen];rw [Oper.upon_value];go_wp2;go_ret
 exact ⟨rfl,rfl⟩
theorem N8 (a b:ByteArray) (w:World):Calls Tryz.prog 168 #[.string a,.string b] w λe w'=>e = .returned (.int .i64 (Lib.compareBytes a.data.toList b.data.toList))/\w' = w:=by
 go_enter Tryz.func168,Tryz.ntmps168;go_wp2_with fail
 refine (abm a b _).mono ?_;rintro e w' ⟨rfl,rfl⟩;go_wp2;go_ret
 exact ⟨rfl,rfl⟩
end Go.Proofs.YtjahcnjmjahbaaaGreat
