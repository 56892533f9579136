/- laws' size checks. -/
import Derived.Test.YtkbkikggodlbbaaGreatKit
namespace Go.Proofs.YtkbkikggodlbbaaGreat
open Go.ChangeShapes Go.WideShapes Go.ChangeAt Go.RowKit
set_option linter.unusedVariables false
set_option linter.unusedSimpArgs false
set_option maxHeartbeats 1000000
theorem mQ {k:IntKind} {a b:Int} (h:a = b):Ending.returned (.int k a) = .returned (.int k b):=by rw [h]
def xu (a:Nat) (left:Int):Int:=if left < a then -1 else left - a
theorem bI (a:Nat) (left:Int):(left < a∧xu a left = -1)∨(a≤left∧xu a left = left - a):=by unfold xu;split <;> omega
theorem MW {a:Nat} {left:Int} (h0:0≤left):xu a left≤left:=by have:=bI a left;omega
theorem Dn {a:Nat} {left:Int} (h:left - a < 0):xu a left = -1:=by have:=bI a left;omega
def kL {α:Type} (f:α→Nat) (xs:List α):Nat:=xs.length+(xs.map f).sum
abbrev wtS (xs:List ByteArray):Nat:=kL ByteArray.size xs
def nH {α:Type} (f:α→Nat) (xs:List α):Nat:=(xs.map f).sum
theorem QI {α:Type} (f:α→Nat) (xs:List α):kL f xs = xs.length+nH f xs:=rfl
theorem CY {α:Type} (f:α→Nat) (xs:List α) (k:Nat) (h:k < xs.length):nH f (xs.take (k+1)) = nH f (xs.take k)+f xs[k]:=by
 unfold nH;rw [List.take_succ_eq_append_getElem h,List.map_append,List.sum_append];simp [-List.map_take]
theorem Il {α:Type} (f:α→Nat) (xs:List α) (k:Nat):nH f (xs.take k)≤nH f xs:=by
 unfold nH;conv=>rhs;rw [← List.take_append_drop k xs]
 rw [List.map_append,List.sum_append];omega
theorem Bq {α:Type} {f:α→Nat} {xs:List α} {x:α} (h:x∈xs):f x≤kL f xs:=by
 unfold kL;induction xs with
 | nil=>cases h
 | cons y ys ih =>
   rcases List.mem_cons.1 h with rfl | h
   ·simp;omega
   ·have:=ih h;simp at this ⊢;omega
theorem rM {α:Type} {f:α→Nat} {xs:List α} {k:Nat} (h:k < xs.length):f xs[k]≤kL f xs:=Bq (List.getElem_mem h)
theorem gJ {α:Type} (f:α→Nat) (xs:List α):xs.length≤kL f xs:=by unfold kL;omega
theorem aae (xs:List ByteArray) (A:Option Addr) (c:Nat) (F:List Nat) (left:Int) (w:World) (h:Sl w xs A c F) (h0:0≤left) (h1:left≤1048576) :
 Calls Tryz.prog 138 #[.slice A xs.length c,.int .i64 left] w fun e w'=>e = .returned (.int .i64 (xu (kL ByteArray.size xs) left))∧Below w.heap.size w w':=by
 have hc:=h.cap;unfold maxLen at hc;obtain ⟨hc1,hc2⟩:=hc;have hwl:=QI ByteArray.size xs;have HWL:=I' hwl;by_cases hl:left - xs.length < 0
 ·have hfin:xu (kL ByteArray.size xs) left = -1:=Dn O';have HF:=I' hfin;clear hfin hwl;go_enter Tryz.func138,Tryz.ntmps138;exact Zadh
 ·clear hwl;go_enter Tryz.func138,Tryz.ntmps138;go_wp2;go_loopw [1,5] (fun l i wr=>∃k:Nat,k≤xs.length∧i = .int .i64 k∧(xs.length+nH ByteArray.size (xs.take k):Int)≤left∧l = .int .i64 (left - xs.length - nH ByteArray.size (xs.take k))∧Below w.heap.size w wr) (fun _ i _=>xs.length - (intOf i).toNat)
  case atStart=>exact ⟨0,Nat.zero_le _,rfl,by simp [nH];omega,by simp [nH],aj _⟩
  case round =>
   obtain ⟨k,hk,rfl,hle,rfl,hbl⟩:=hrel;by_cases hlt:k < xs.length
   ·obtain ⟨b,o,ck,Fk,rfl,o9,hbs,hr,hsub,hc⟩:=(h.ext hbl).get hlt;obtain ⟨rfl,rfl,hs0⟩:=hr;unfold maxLen at hs0;have q0:wr.cell? ⟨b,o+k,none⟩ = some (.string xs[k]):=(by have:=hc 0 _ rfl;simpa [Dat.size] using this);clear hc;have hst:=CY ByteArray.size xs k hlt;have hle2:=Il ByteArray.size xs (k+1);have Hst:=I' hst;clear hst;go_wp2
    ·rename_i hneg;go_ret
     have h4:=Hst.out;have h5:=HWL.out;skip
     exact ⟨mQ (Dn O').symm,hbl⟩
    ·rename_i hpos;have h4:=Hst.out;skip
     exact ⟨⟨k+1,O',N',O',by congr 1;omega,hbl⟩,by simp [intOf];omega⟩
   ·go_wp2;go_ret
    have:k = xs.length:=O';subst this;rw [List.take_length] at hle ⊢;have h3:=bI (kL ByteArray.size xs) left;have h5:=HWL.out;exact ⟨mQ O',hbl⟩
def Label.wt (x:Label):Nat:=x.key.size+x.value.size
theorem ana (x:Label) (cs:List Value) (F:List Nat) (left:Int) (w:World) (h:rd w x cs F) (h0:0≤left) (h1:left≤1048576) :
 Calls Tryz.prog 91 #[.agg cs.toArray,.int .i64 left] w fun e w'=>e = .returned (.int .i64 (xu x.wt left))∧Below w.heap.size w w':=by
 obtain ⟨_,_,_,_,rfl,rfl,⟨rfl,rfl,hkey⟩,⟨rfl,rfl,kP⟩⟩:=h;replace hkey:=rV (s:=x.key) hkey;replace kP:=rV (s:=x.value) kP;simp only [List.cons_append,List.nil_append];go_enter Tryz.func91,Tryz.ntmps91;go_wp2;all_goals go_ret
 all_goals refine ⟨mQ ?_,by repeat (first | exact aj _ | assumption | refine ak ?_ _ | refine ah ?_ Y')⟩
 all_goals have s99:=bI x.wt left
 all_goals (unfold Label.wt at s99 ⊢;try unfold wtS at s99 ⊢)
 all_goals omega
theorem Px (xs:List Label) (A:Option Addr) (c:Nat) (F:List Nat) (left:Int) (w:World) (h:Sl w xs A c F) (h0:0≤left) (h1:left≤1048576) :
 Calls Tryz.prog 44 #[.slice A xs.length c,.int .i64 left] w fun e w'=>e = .returned (.int .i64 (xu (kL Label.wt xs) left))∧Below w.heap.size w w':=by
 have hc:=h.cap;unfold maxLen at hc;obtain ⟨hc1,hc2⟩:=hc;have hwl:=QI Label.wt xs;have HWL:=I' hwl;by_cases hl:left - xs.length < 0
 ·have hfin:xu (kL Label.wt xs) left = -1:=Dn O';have HF:=I' hfin;clear hfin hwl;go_enter Tryz.func44,Tryz.ntmps44;exact Zadh
 ·clear hwl;go_enter Tryz.func44,Tryz.ntmps44;go_wp2;go_loopw [1,5] (fun l i wr=>∃k:Nat,k≤xs.length∧i = .int .i64 k∧(xs.length+nH Label.wt (xs.take k):Int)≤left∧l = .int .i64 (left - xs.length - nH Label.wt (xs.take k))∧Below w.heap.size w wr) (fun _ i _=>xs.length - (intOf i).toNat)
  case atStart=>exact ⟨0,Nat.zero_le _,rfl,by simp [nH];omega,by simp [nH],aj _⟩
  case round =>
   obtain ⟨k,hk,rfl,hle,rfl,hbl⟩:=hrel;by_cases hlt:k < xs.length
   ·obtain ⟨b,o,ck,Fk,rfl,o9,hbs,hr,hsub,hc⟩:=(h.ext hbl).get hlt;obtain ⟨hck,rfl,hkey,kP⟩:=vO hr;subst hck;have q0:wr.cell? ⟨b,o+k * 2,none⟩ = some (.string xs[k].key):=(by exact hc 0 _ rfl);have q1:wr.cell? ⟨b,o+k * 2+1,none⟩ = some (.string xs[k].value):=(by rw [Nat.add_assoc];exact hc 1 _ rfl);clear hc;have hst:=CY Label.wt xs k hlt;have hle2:=Il Label.wt xs (k+1);have Hst:=I' hst;clear hst;go_wp2_with (go_at_call 91;refine (ana xs[k] _ _ _ _ hr O' O').mono ?_;rintro e w2 ⟨rfl,hb2⟩)
    ·rename_i hneg;go_ret
     have h4:=Hst.out;have h5:=HWL.out;have h3:=bI (Label.wt xs[k]) (left - xs.length - nH Label.wt (xs.take k));exact ⟨mQ (Dn O').symm,ah hbl hb2⟩
    ·rename_i hpos;have h4:=Hst.out;have h3:=bI (Label.wt xs[k]) (left - xs.length - nH Label.wt (xs.take k));exact Zacu
   ·go_wp2;go_ret
    have:k = xs.length:=O';subst this;rw [List.take_length] at hle ⊢;have h3:=bI (kL Label.wt xs) left;have h5:=HWL.out;exact ⟨mQ O',hbl⟩
def Need.wt (x:Need):Nat:=x.key.size+wtS x.values
theorem aoZ (x:Need) (cs:List Value) (F:List Nat) (left:Int) (w:World) (h:rd w x cs F) (h0:0≤left) (h1:left≤1048576) :
 Calls Tryz.prog 92 #[.agg cs.toArray,.int .i64 left] w fun e w'=>e = .returned (.int .i64 (xu x.wt left))∧Below w.heap.size w w':=by
 obtain ⟨_,_,_,_,rfl,rfl,⟨rfl,rfl,hkey⟩,_,_,_,_,rfl,rfl,⟨rfl,rfl,hop⟩,kV⟩:=h;obtain ⟨jy,ji,rfl,kV⟩:=jB kV;replace hkey:=rV (s:=x.key) hkey;replace hop:I64 x.op:=hop;replace kV:Sl _ x.values jy ji _:=kV;simp only [List.cons_append,List.nil_append];go_enter Tryz.func92,Tryz.ntmps92;go_wp2_with (first | (go_at_call 138;refine (aae x.values _ _ _ _ _ (kV.ext atS) O' O').mono ?_;rintro e w2 ⟨rfl,hb2⟩;obtain ⟨hc2,hf2⟩:=ay hb2;have al0:w.heap.size < w2.heap.size:=(sq hb2.size);have hle2:=MW (a:=kL ByteArray.size x.values) (left:=(left - x.key.size)) O'))
 all_goals go_ret
 all_goals refine ⟨mQ ?_,by repeat (first | exact aj _ | assumption | refine ak ?_ _ | refine ah ?_ Y')⟩
 all_goals have s99:=bI x.wt left
 all_goals have s2:=bI (kL ByteArray.size x.values) (left - x.key.size)
 all_goals (unfold Need.wt at s99 ⊢;try unfold wtS at s99 ⊢)
 all_goals omega
theorem anb (xs:List Need) (A:Option Addr) (c:Nat) (F:List Nat) (left:Int) (w:World) (h:Sl w xs A c F) (h0:0≤left) (h1:left≤1048576) :
 Calls Tryz.prog 45 #[.slice A xs.length c,.int .i64 left] w fun e w'=>e = .returned (.int .i64 (xu (kL Need.wt xs) left))∧Below w.heap.size w w':=by
 have hc:=h.cap;unfold maxLen at hc;obtain ⟨hc1,hc2⟩:=hc;have hwl:=QI Need.wt xs;have HWL:=I' hwl;by_cases hl:left - xs.length < 0
 ·have hfin:xu (kL Need.wt xs) left = -1:=Dn O';have HF:=I' hfin;clear hfin hwl;go_enter Tryz.func45,Tryz.ntmps45;exact Zadh
 ·clear hwl;go_enter Tryz.func45,Tryz.ntmps45;go_wp2;go_loopw [1,5] (fun l i wr=>∃k:Nat,k≤xs.length∧i = .int .i64 k∧(xs.length+nH Need.wt (xs.take k):Int)≤left∧l = .int .i64 (left - xs.length - nH Need.wt (xs.take k))∧Below w.heap.size w wr) (fun _ i _=>xs.length - (intOf i).toNat)
  case atStart=>exact ⟨0,Nat.zero_le _,rfl,by simp [nH];omega,by simp [nH],aj _⟩
  case round =>
   obtain ⟨k,hk,rfl,hle,rfl,hbl⟩:=hrel;by_cases hlt:k < xs.length
   ·obtain ⟨b,o,ck,Fk,rfl,o9,hbs,hr,hsub,hc⟩:=(h.ext hbl).get hlt;obtain ⟨jy,ji,Bo,hck,rfl,hkey,hop,kV⟩:=og hr;subst hck;have q0:wr.cell? ⟨b,o+k * 3,none⟩ = some (.string xs[k].key):=(by exact hc 0 _ rfl);have q1:wr.cell? ⟨b,o+k * 3+1,none⟩ = some (.int .i64 xs[k].op):=(by rw [Nat.add_assoc];exact hc 1 _ rfl);have q2:wr.cell? ⟨b,o+k * 3+2,none⟩ = some (.slice jy xs[k].values.length ji):=(by rw [Nat.add_assoc];exact hc 2 _ rfl);clear hc;have hst:=CY Need.wt xs k hlt;have hle2:=Il Need.wt xs (k+1);have Hst:=I' hst;clear hst;go_wp2_with (go_at_call 92;refine (aoZ xs[k] _ _ _ _ hr O' O').mono ?_;rintro e w2 ⟨rfl,hb2⟩)
    ·rename_i hneg;go_ret
     have h4:=Hst.out;have h5:=HWL.out;have h3:=bI (Need.wt xs[k]) (left - xs.length - nH Need.wt (xs.take k));exact ⟨mQ (Dn O').symm,ah hbl hb2⟩
    ·rename_i hpos;have h4:=Hst.out;have h3:=bI (Need.wt xs[k]) (left - xs.length - nH Need.wt (xs.take k));exact Zacu
   ·go_wp2;go_ret
    have:k = xs.length:=O';subst this;rw [List.take_length] at hle ⊢;have h3:=bI (kL Need.wt xs) left;have h5:=HWL.out;exact ⟨mQ O',hbl⟩
def iU.wt (x:iU):Nat:=x.key.size+x.value.size
theorem anc (x:iU) (cs:List Value) (F:List Nat) (left:Int) (w:World) (h:rd w x cs F) (h0:0≤left) (h1:left≤1048576) :
 Calls Tryz.prog 94 #[.agg cs.toArray,.int .i64 left] w fun e w'=>e = .returned (.int .i64 (xu x.wt left))∧Below w.heap.size w w':=by
 obtain ⟨_,_,_,_,rfl,rfl,⟨rfl,rfl,hkey⟩,_,_,_,_,rfl,rfl,⟨rfl,rfl,kP⟩,⟨rfl,rfl,lD⟩⟩:=h;replace hkey:=rV (s:=x.key) hkey;replace kP:=rV (s:=x.value) kP;replace lD:I64 x.effect:=lD;simp only [List.cons_append,List.nil_append];go_enter Tryz.func94,Tryz.ntmps94;go_wp2;all_goals go_ret
 all_goals refine ⟨mQ ?_,by repeat (first | exact aj _ | assumption | refine ak ?_ _ | refine ah ?_ Y')⟩
 all_goals have s99:=bI x.wt left
 all_goals (unfold iU.wt at s99 ⊢;try unfold wtS at s99 ⊢)
 all_goals omega
theorem alk (xs:List iU) (A:Option Addr) (c:Nat) (F:List Nat) (left:Int) (w:World) (h:Sl w xs A c F) (h0:0≤left) (h1:left≤1048576) :
 Calls Tryz.prog 47 #[.slice A xs.length c,.int .i64 left] w fun e w'=>e = .returned (.int .i64 (xu (kL iU.wt xs) left))∧Below w.heap.size w w':=by
 have hc:=h.cap;unfold maxLen at hc;obtain ⟨hc1,hc2⟩:=hc;have hwl:=QI iU.wt xs;have HWL:=I' hwl;by_cases hl:left - xs.length < 0
 ·have hfin:xu (kL iU.wt xs) left = -1:=Dn O';have HF:=I' hfin;clear hfin hwl;go_enter Tryz.func47,Tryz.ntmps47;exact Zadh
 ·clear hwl;go_enter Tryz.func47,Tryz.ntmps47;go_wp2;go_loopw [1,5] (fun l i wr=>∃k:Nat,k≤xs.length∧i = .int .i64 k∧(xs.length+nH iU.wt (xs.take k):Int)≤left∧l = .int .i64 (left - xs.length - nH iU.wt (xs.take k))∧Below w.heap.size w wr) (fun _ i _=>xs.length - (intOf i).toNat)
  case atStart=>exact ⟨0,Nat.zero_le _,rfl,by simp [nH];omega,by simp [nH],aj _⟩
  case round =>
   obtain ⟨k,hk,rfl,hle,rfl,hbl⟩:=hrel;by_cases hlt:k < xs.length
   ·obtain ⟨b,o,ck,Fk,rfl,o9,hbs,hr,hsub,hc⟩:=(h.ext hbl).get hlt;obtain ⟨hck,rfl,hkey,kP,lD⟩:=oK hr;subst hck;have q0:wr.cell? ⟨b,o+k * 3,none⟩ = some (.string xs[k].key):=(by exact hc 0 _ rfl);have q1:wr.cell? ⟨b,o+k * 3+1,none⟩ = some (.string xs[k].value):=(by rw [Nat.add_assoc];exact hc 1 _ rfl);have q2:wr.cell? ⟨b,o+k * 3+2,none⟩ = some (.int .i64 xs[k].effect):=(by rw [Nat.add_assoc];exact hc 2 _ rfl);clear hc;have hst:=CY iU.wt xs k hlt;have hle2:=Il iU.wt xs (k+1);have Hst:=I' hst;clear hst;go_wp2_with (go_at_call 94;refine (anc xs[k] _ _ _ _ hr O' O').mono ?_;rintro e w2 ⟨rfl,hb2⟩)
    ·rename_i hneg;go_ret
     have h4:=Hst.out;have h5:=HWL.out;have h3:=bI (iU.wt xs[k]) (left - xs.length - nH iU.wt (xs.take k));exact ⟨mQ (Dn O').symm,ah hbl hb2⟩
    ·rename_i hpos;have h4:=Hst.out;have h3:=bI (iU.wt xs[k]) (left - xs.length - nH iU.wt (xs.take k));exact Zacu
   ·go_wp2;go_ret
    have:k = xs.length:=O';subst this;rw [List.take_length] at hle ⊢;have h3:=bI (kL iU.wt xs) left;have h5:=HWL.out;exact ⟨mQ O',hbl⟩
def bH.wt (x:bH):Nat:=x.key.size+x.value.size
theorem aeT (x:bH) (cs:List Value) (F:List Nat) (left:Int) (w:World) (h:rd w x cs F) (h0:0≤left) (h1:left≤1048576) :
 Calls Tryz.prog 93 #[.agg cs.toArray,.int .i64 left] w fun e w'=>e = .returned (.int .i64 (xu x.wt left))∧Below w.heap.size w w':=by
 obtain ⟨_,_,_,_,rfl,rfl,⟨rfl,rfl,hkey⟩,_,_,_,_,rfl,rfl,⟨rfl,rfl⟩,_,_,_,_,rfl,rfl,⟨rfl,rfl,kP⟩,⟨rfl,rfl,lD⟩⟩:=h;replace hkey:=rV (s:=x.key) hkey;replace kP:=rV (s:=x.value) kP;replace lD:I64 x.effect:=lD;simp only [List.cons_append,List.nil_append];go_enter Tryz.func93,Tryz.ntmps93;go_wp2;all_goals go_ret
 all_goals refine ⟨mQ ?_,by repeat (first | exact aj _ | assumption | refine ak ?_ _ | refine ah ?_ Y')⟩
 all_goals have s99:=bI x.wt left
 all_goals (unfold bH.wt at s99 ⊢;try unfold wtS at s99 ⊢)
 all_goals omega
theorem adt (xs:List bH) (A:Option Addr) (c:Nat) (F:List Nat) (left:Int) (w:World) (h:Sl w xs A c F) (h0:0≤left) (h1:left≤1048576) :
 Calls Tryz.prog 46 #[.slice A xs.length c,.int .i64 left] w fun e w'=>e = .returned (.int .i64 (xu (kL bH.wt xs) left))∧Below w.heap.size w w':=by
 have hc:=h.cap;unfold maxLen at hc;obtain ⟨hc1,hc2⟩:=hc;have hwl:=QI bH.wt xs;have HWL:=I' hwl;by_cases hl:left - xs.length < 0
 ·have hfin:xu (kL bH.wt xs) left = -1:=Dn O';have HF:=I' hfin;clear hfin hwl;go_enter Tryz.func46,Tryz.ntmps46;exact Zadh
 ·clear hwl;go_enter Tryz.func46,Tryz.ntmps46;go_wp2;go_loopw [1,5] (fun l i wr=>∃k:Nat,k≤xs.length∧i = .int .i64 k∧(xs.length+nH bH.wt (xs.take k):Int)≤left∧l = .int .i64 (left - xs.length - nH bH.wt (xs.take k))∧Below w.heap.size w wr) (fun _ i _=>xs.length - (intOf i).toNat)
  case atStart=>exact ⟨0,Nat.zero_le _,rfl,by simp [nH];omega,by simp [nH],aj _⟩
  case round =>
   obtain ⟨k,hk,rfl,hle,rfl,hbl⟩:=hrel;by_cases hlt:k < xs.length
   ·obtain ⟨b,o,ck,Fk,rfl,o9,hbs,hr,hsub,hc⟩:=(h.ext hbl).get hlt;obtain ⟨hck,rfl,hkey,kP,lD⟩:=jv hr;subst hck;have q0:wr.cell? ⟨b,o+k * 4,none⟩ = some (.string xs[k].key):=(by exact hc 0 _ rfl);have q1:wr.cell? ⟨b,o+k * 4+1,none⟩ = some (.bool xs[k].equal):=(by rw [Nat.add_assoc];exact hc 1 _ rfl);have q2:wr.cell? ⟨b,o+k * 4+2,none⟩ = some (.string xs[k].value):=(by rw [Nat.add_assoc];exact hc 2 _ rfl);have q3:wr.cell? ⟨b,o+k * 4+3,none⟩ = some (.int .i64 xs[k].effect):=(by rw [Nat.add_assoc];exact hc 3 _ rfl);clear hc;have hst:=CY bH.wt xs k hlt;have hle2:=Il bH.wt xs (k+1);have Hst:=I' hst;clear hst;go_wp2_with (go_at_call 93;refine (aeT xs[k] _ _ _ _ hr O' O').mono ?_;rintro e w2 ⟨rfl,hb2⟩)
    ·rename_i hneg;go_ret
     have h4:=Hst.out;have h5:=HWL.out;have h3:=bI (bH.wt xs[k]) (left - xs.length - nH bH.wt (xs.take k));exact ⟨mQ (Dn O').symm,ah hbl hb2⟩
    ·rename_i hpos;have h4:=Hst.out;have h3:=bI (bH.wt xs[k]) (left - xs.length - nH bH.wt (xs.take k));exact Zacu
   ·go_wp2;go_ret
    have:k = xs.length:=O';subst this;rw [List.take_length] at hle ⊢;have h3:=bI (kL bH.wt xs) left;have h5:=HWL.out;exact ⟨mQ O',hbl⟩
def nI.wt (x:nI):Nat:=x.name.size+kL Label.wt x.labels+kL Need.wt x.needs+kL bH.wt x.tolerances
theorem pG (x:nI) (cs:List Value) (F:List Nat) (left:Int) (w:World) (h:rd w x cs F) (h0:0≤left) (h1:left≤1048576) :
 Calls Tryz.prog 17 #[.agg cs.toArray,.int .i64 left] w fun e w'=>e = .returned (.int .i64 (xu x.wt left))∧Below w.heap.size w w':=by
 obtain ⟨_,_,_,_,rfl,rfl,⟨rfl,rfl,hname⟩,_,_,_,_,rfl,rfl,dO,_,_,_,_,rfl,rfl,⟨rfl,rfl,vg⟩,_,_,_,_,rfl,rfl,⟨rfl,rfl,hmem⟩,_,_,_,_,rfl,rfl,⟨rfl,rfl,BJ⟩,_,_,_,_,rfl,rfl,mX,eG⟩:=h;obtain ⟨gu,gy,rfl,dO⟩:=jB dO;obtain ⟨oh,nT,rfl,mX⟩:=jB mX;obtain ⟨fA,fB,rfl,eG⟩:=jB eG;replace hname:=rV (s:=x.name) hname;replace dO:Sl _ x.labels gu gy _:=dO;replace vg:I64 x.cpu:=vg;replace hmem:I64 x.mem:=hmem;replace BJ:I64 x.rank:=BJ;replace mX:Sl _ x.needs oh nT _:=mX;replace eG:Sl _ x.tolerances fA fB _:=eG;simp only [List.cons_append,List.nil_append];go_enter Tryz.func17,Tryz.ntmps17;go_wp2_with (first | (go_at_call 44;refine (Px x.labels _ _ _ _ _ (dO.ext atS) O' O').mono ?_;rintro e w1 ⟨rfl,hb1⟩;obtain ⟨hc1,hf1⟩:=ay hb1;have zO:w.heap.size < w1.heap.size:=(sq hb1.size);have hle1:=MW (a:=kL Label.wt x.labels) (left:=(left - x.name.size)) O') | (go_at_call 45;refine (anb x.needs _ _ _ _ _ (mX.ext atS) O' O').mono ?_;rintro e w5 ⟨rfl,hb5⟩;obtain ⟨hc5,hf5⟩:=ay hb5;have Sm:w.heap.size < w5.heap.size:=(sq hb5.size);have hle5:=MW (a:=kL Need.wt x.needs) (left:=(xu (kL Label.wt x.labels) (left - x.name.size))) O') | (go_at_call 46;refine (adt x.tolerances _ _ _ _ _ (eG.ext atS) O' O').mono ?_;rintro e w6 ⟨rfl,hb6⟩;obtain ⟨hc6,Xe⟩:=ay hb6;have al2:w.heap.size < w6.heap.size:=(sq hb6.size);have hle6:=MW (a:=kL bH.wt x.tolerances) (left:=(xu (kL Need.wt x.needs) (xu (kL Label.wt x.labels) (left - x.name.size)))) O'))
 all_goals go_ret
 all_goals refine ⟨mQ ?_,by repeat (first | exact aj _ | assumption | refine ak ?_ _ | refine ah ?_ Y')⟩
 all_goals have s99:=bI x.wt left
 all_goals have s1:=bI (kL Label.wt x.labels) (left - x.name.size)
 all_goals have s5:=bI (kL Need.wt x.needs) (xu (kL Label.wt x.labels) (left - x.name.size))
 all_goals have s6:=bI (kL bH.wt x.tolerances) (xu (kL Need.wt x.needs) (xu (kL Label.wt x.labels) (left - x.name.size)))
 all_goals (unfold nI.wt at s99 ⊢;try unfold wtS at s99 ⊢)
 all_goals omega
def Host.wt (x:Host):Nat:=x.name.size+kL Label.wt x.labels+kL iU.wt x.aT
theorem Vz (x:Host) (cs:List Value) (F:List Nat) (left:Int) (w:World) (h:rd w x cs F) (h0:0≤left) (h1:left≤1048576) :
 Calls Tryz.prog 18 #[.agg cs.toArray,.int .i64 left] w fun e w'=>e = .returned (.int .i64 (xu x.wt left))∧Below w.heap.size w w':=by
 obtain ⟨_,_,_,_,rfl,rfl,⟨rfl,rfl,hname⟩,_,_,_,_,rfl,rfl,dO,_,_,_,_,rfl,rfl,⟨rfl,rfl,vg⟩,_,_,_,_,rfl,rfl,⟨rfl,rfl,hmem⟩,_,_,_,_,rfl,rfl,⟨rfl,rfl,uI⟩,jq⟩:=h;obtain ⟨gu,gy,rfl,dO⟩:=jB dO;obtain ⟨kJ,kK,rfl,jq⟩:=jB jq;replace hname:=rV (s:=x.name) hname;replace dO:Sl _ x.labels gu gy _:=dO;replace vg:I64 x.cpu:=vg;replace hmem:I64 x.mem:=hmem;replace uI:I64 x.slots:=uI;replace jq:Sl _ x.aT kJ kK _:=jq;simp only [List.cons_append,List.nil_append];go_enter Tryz.func18,Tryz.ntmps18;go_wp2_with (first | (go_at_call 44;refine (Px x.labels _ _ _ _ _ (dO.ext atS) O' O').mono ?_;rintro e w1 ⟨rfl,hb1⟩;obtain ⟨hc1,hf1⟩:=ay hb1;have zO:w.heap.size < w1.heap.size:=(sq hb1.size);have hle1:=MW (a:=kL Label.wt x.labels) (left:=(left - x.name.size)) O') | (go_at_call 47;refine (alk x.aT _ _ _ _ _ (jq.ext atS) O' O').mono ?_;rintro e w5 ⟨rfl,hb5⟩;obtain ⟨hc5,hf5⟩:=ay hb5;have Sm:w.heap.size < w5.heap.size:=(sq hb5.size);have hle5:=MW (a:=kL iU.wt x.aT) (left:=(xu (kL Label.wt x.labels) (left - x.name.size))) O'))
 all_goals go_ret
 all_goals refine ⟨mQ ?_,by repeat (first | exact aj _ | assumption | refine ak ?_ _ | refine ah ?_ Y')⟩
 all_goals have s99:=bI x.wt left
 all_goals have s1:=bI (kL Label.wt x.labels) (left - x.name.size)
 all_goals have s5:=bI (kL iU.wt x.aT) (xu (kL Label.wt x.labels) (left - x.name.size))
 all_goals (unfold Host.wt at s99 ⊢;try unfold wtS at s99 ⊢)
 all_goals omega
theorem ane (xs:List Host) (A:Option Addr) (c:Nat) (F:List Nat) (left:Int) (w:World) (h:Sl w xs A c F) (h0:0≤left) (h1:left≤1048576) :
 Calls Tryz.prog 15 #[.slice A xs.length c,.int .i64 left] w fun e w'=>e = .returned (.int .i64 (xu (kL Host.wt xs) left))∧Below w.heap.size w w':=by
 have hc:=h.cap;unfold maxLen at hc;obtain ⟨hc1,hc2⟩:=hc;have hwl:=QI Host.wt xs;have HWL:=I' hwl;by_cases hl:left - xs.length < 0
 ·have hfin:xu (kL Host.wt xs) left = -1:=Dn O';have HF:=I' hfin;clear hfin hwl;go_enter Tryz.func15,Tryz.ntmps15;exact Zadh
 ·clear hwl;go_enter Tryz.func15,Tryz.ntmps15;go_wp2;go_loopw [1,5] (fun l i wr=>∃k:Nat,k≤xs.length∧i = .int .i64 k∧(xs.length+nH Host.wt (xs.take k):Int)≤left∧l = .int .i64 (left - xs.length - nH Host.wt (xs.take k))∧Below w.heap.size w wr) (fun _ i _=>xs.length - (intOf i).toNat)
  case atStart=>exact ⟨0,Nat.zero_le _,rfl,by simp [nH];omega,by simp [nH],aj _⟩
  case round =>
   obtain ⟨k,hk,rfl,hle,rfl,hbl⟩:=hrel;by_cases hlt:k < xs.length
   ·obtain ⟨b,o,ck,Fk,rfl,o9,hbs,hr,hsub,hc⟩:=(h.ext hbl).get hlt;obtain ⟨gu,gy,jw,kJ,kK,qU,hck,rfl,hname,dO,vg,hmem,uI,jq⟩:=iy hr;subst hck;have q0:wr.cell? ⟨b,o+k * 6,none⟩ = some (.string xs[k].name):=(by exact hc 0 _ rfl);have q1:wr.cell? ⟨b,o+k * 6+1,none⟩ = some (.slice gu xs[k].labels.length gy):=(by rw [Nat.add_assoc];exact hc 1 _ rfl);have q2:wr.cell? ⟨b,o+k * 6+2,none⟩ = some (.int .i64 xs[k].cpu):=(by rw [Nat.add_assoc];exact hc 2 _ rfl);have q3:wr.cell? ⟨b,o+k * 6+3,none⟩ = some (.int .i64 xs[k].mem):=(by rw [Nat.add_assoc];exact hc 3 _ rfl);have q4:wr.cell? ⟨b,o+k * 6+4,none⟩ = some (.int .i64 xs[k].slots):=(by rw [Nat.add_assoc];exact hc 4 _ rfl);have q5:wr.cell? ⟨b,o+k * 6+5,none⟩ = some (.slice kJ xs[k].aT.length kK):=(by rw [Nat.add_assoc];exact hc 5 _ rfl);clear hc;have hst:=CY Host.wt xs k hlt;have hle2:=Il Host.wt xs (k+1);have Hst:=I' hst;clear hst;go_wp2_with (go_at_call 18;refine (Vz xs[k] _ _ _ _ hr O' O').mono ?_;rintro e w2 ⟨rfl,hb2⟩)
    ·rename_i hneg;go_ret
     have h4:=Hst.out;have h5:=HWL.out;have h3:=bI (Host.wt xs[k]) (left - xs.length - nH Host.wt (xs.take k));exact ⟨mQ (Dn O').symm,ah hbl hb2⟩
    ·rename_i hpos;have h4:=Hst.out;have h3:=bI (Host.wt xs[k]) (left - xs.length - nH Host.wt (xs.take k));exact Zacu
   ·go_wp2;go_ret
    have:k = xs.length:=O';subst this;rw [List.take_length] at hle ⊢;have h3:=bI (kL Host.wt xs) left;have h5:=HWL.out;exact ⟨mQ O',hbl⟩
def Placed.wt (x:Placed):Nat:=x.aS.wt+x.on.size
theorem alm (x:Placed) (cs:List Value) (F:List Nat) (left:Int) (w:World) (h:rd w x cs F) (h0:0≤left) (h1:left≤1048576) :
 Calls Tryz.prog 43 #[.agg cs.toArray,.int .i64 left] w fun e w'=>e = .returned (.int .i64 (xu x.wt left))∧Below w.heap.size w w':=by
 obtain ⟨_,_,_,_,rfl,rfl,WT,_,_,_,_,rfl,rfl,⟨rfl,rfl,hon⟩,⟨rfl,rfl,hseq⟩⟩:=h;have kG:=WT;obtain ⟨gV,gW,lF,iR,iT,mV,dD,dF,iH,rfl,rfl,nY,iE,rF,rG,oZ,je,dN⟩:=dL WT;replace nY:=rV (s:=x.aS.name) nY;replace iE:Sl _ x.aS.labels gV gW _:=iE;replace rF:I64 x.aS.cpu:=rF;replace rG:I64 x.aS.mem:=rG;replace oZ:I64 x.aS.rank:=oZ;replace je:Sl _ x.aS.needs iR iT _:=je;replace dN:Sl _ x.aS.tolerances dD dF _:=dN;replace hon:=rV (s:=x.on) hon;replace hseq:I64 x.seq:=hseq;replace kG:rd _ x.aS [.string x.aS.name,.slice gV x.aS.labels.length gW,.int .i64 x.aS.cpu,.int .i64 x.aS.mem,.int .i64 x.aS.rank,.slice iR x.aS.needs.length iT,.slice dD x.aS.tolerances.length dF] _:=kG;simp only [List.cons_append,List.nil_append];go_enter Tryz.func43,Tryz.ntmps43;go_wp2_with (first | (go_at_call 17;refine (pG x.aS _ _ _ _ (Dat.frame kG (fun b hb=>(show Below w.heap.size w _ from atS).block b (Dat.lt kG b hb)) (show Below w.heap.size w _ from atS).size) O' O').mono ?_;rintro e w0 ⟨rfl,hb0⟩;obtain ⟨hc0,hf0⟩:=ay hb0;have ahZ:w.heap.size < w0.heap.size:=(sq hb0.size);have hle0:=MW (a:=x.aS.wt) (left:=left) O'))
 all_goals go_ret
 all_goals refine ⟨mQ ?_,by repeat (first | exact aj _ | assumption | refine ak ?_ _ | refine ah ?_ Y')⟩
 all_goals have s99:=bI x.wt left
 all_goals have s0:=bI x.aS.wt left
 all_goals (unfold Placed.wt at s99 ⊢;try unfold wtS at s99 ⊢)
 all_goals omega
theorem aiv (xs:List Placed) (A:Option Addr) (c:Nat) (F:List Nat) (left:Int) (w:World) (h:Sl w xs A c F) (h0:0≤left) (h1:left≤1048576) :
 Calls Tryz.prog 16 #[.slice A xs.length c,.int .i64 left] w fun e w'=>e = .returned (.int .i64 (xu (kL Placed.wt xs) left))∧Below w.heap.size w w':=by
 have hc:=h.cap;unfold maxLen at hc;obtain ⟨hc1,hc2⟩:=hc;have hwl:=QI Placed.wt xs;have HWL:=I' hwl;by_cases hl:left - xs.length < 0
 ·have hfin:xu (kL Placed.wt xs) left = -1:=Dn O';have HF:=I' hfin;clear hfin hwl;go_enter Tryz.func16,Tryz.ntmps16;exact Zadh
 ·clear hwl;go_enter Tryz.func16,Tryz.ntmps16;go_wp2;go_loopw [1,5] (fun l i wr=>∃k:Nat,k≤xs.length∧i = .int .i64 k∧(xs.length+nH Placed.wt (xs.take k):Int)≤left∧l = .int .i64 (left - xs.length - nH Placed.wt (xs.take k))∧Below w.heap.size w wr) (fun _ i _=>xs.length - (intOf i).toNat)
  case atStart=>exact ⟨0,Nat.zero_le _,rfl,by simp [nH];omega,by simp [nH],aj _⟩
  case round =>
   obtain ⟨k,hk,rfl,hle,rfl,hbl⟩:=hrel;by_cases hlt:k < xs.length
   ·obtain ⟨b,o,ck,Fk,rfl,o9,hbs,hr,hsub,hc⟩:=(h.ext hbl).get hlt;obtain ⟨gV,gW,lF,iR,iT,mV,dD,dF,iH,hck,rfl,nY,iE,rF,rG,oZ,je,dN,hon,hseq⟩:=kE hr;subst hck;have q0:wr.cell? ⟨b,o+k * 9,none⟩ = some (.string xs[k].aS.name):=(by exact hc 0 _ rfl);have q1:wr.cell? ⟨b,o+k * 9+1,none⟩ = some (.slice gV xs[k].aS.labels.length gW):=(by rw [Nat.add_assoc];exact hc 1 _ rfl);have q2:wr.cell? ⟨b,o+k * 9+2,none⟩ = some (.int .i64 xs[k].aS.cpu):=(by rw [Nat.add_assoc];exact hc 2 _ rfl);have q3:wr.cell? ⟨b,o+k * 9+3,none⟩ = some (.int .i64 xs[k].aS.mem):=(by rw [Nat.add_assoc];exact hc 3 _ rfl);have q4:wr.cell? ⟨b,o+k * 9+4,none⟩ = some (.int .i64 xs[k].aS.rank):=(by rw [Nat.add_assoc];exact hc 4 _ rfl);have q5:wr.cell? ⟨b,o+k * 9+5,none⟩ = some (.slice iR xs[k].aS.needs.length iT):=(by rw [Nat.add_assoc];exact hc 5 _ rfl);have q6:wr.cell? ⟨b,o+k * 9+6,none⟩ = some (.slice dD xs[k].aS.tolerances.length dF):=(by rw [Nat.add_assoc];exact hc 6 _ rfl);have q7:wr.cell? ⟨b,o+k * 9+7,none⟩ = some (.string xs[k].on):=(by rw [Nat.add_assoc];exact hc 7 _ rfl);have q8:wr.cell? ⟨b,o+k * 9+8,none⟩ = some (.int .i64 xs[k].seq):=(by rw [Nat.add_assoc];exact hc 8 _ rfl);clear hc;have hst:=CY Placed.wt xs k hlt;have hle2:=Il Placed.wt xs (k+1);have Hst:=I' hst;clear hst;go_wp2_with (go_at_call 43;refine (alm xs[k] _ _ _ _ hr O' O').mono ?_;rintro e w2 ⟨rfl,hb2⟩)
    ·rename_i hneg;go_ret
     have h4:=Hst.out;have h5:=HWL.out;have h3:=bI (Placed.wt xs[k]) (left - xs.length - nH Placed.wt (xs.take k));exact ⟨mQ (Dn O').symm,ah hbl hb2⟩
    ·rename_i hpos;have h4:=Hst.out;have h3:=bI (Placed.wt xs[k]) (left - xs.length - nH Placed.wt (xs.take k));exact Zacu
   ·go_wp2;go_ret
    have:k = xs.length:=O';subst this;rw [List.take_length] at hle ⊢;have h3:=bI (kL Placed.wt xs) left;have h5:=HWL.out;exact ⟨mQ O',hbl⟩
def aU.wt (x:aU):Nat:=kL Host.wt x.hosts+kL Placed.wt x.au
theorem dB (x:aU) (cs:List Value) (F:List Nat) (left:Int) (w:World) (h:rd w x cs F) (h0:0≤left) (h1:left≤1048576) :
 Calls Tryz.prog 4 #[.agg cs.toArray,.int .i64 left] w fun e w'=>e = .returned (.int .i64 (xu x.wt left))∧Below w.heap.size w w':=by
 obtain ⟨_,_,_,_,rfl,rfl,bQ,_,_,_,_,rfl,rfl,dM,_,_,_,_,rfl,rfl,⟨rfl,rfl,hnext⟩,xM⟩:=h;obtain ⟨bG,bD,rfl,bQ⟩:=jB bQ;obtain ⟨dn,bW,rfl,dM⟩:=jB dM;have uJ:=xM;obtain ⟨rfl,rfl,aV,aP,aW⟩:=mg xM;replace bQ:Sl _ x.hosts bG bD _:=bQ;replace dM:Sl _ x.au dn bW _:=dM;replace hnext:I64 x.next:=hnext;replace aV:I64 x.weights.pack:=aV;replace aP:I64 x.weights.spread:=aP;replace aW:I64 x.weights.soft:=aW;replace uJ:rd _ x.weights [.int .i64 x.weights.pack,.int .i64 x.weights.spread,.int .i64 x.weights.soft] _:=uJ;simp only [List.cons_append,List.nil_append];go_enter Tryz.func4,Tryz.ntmps4;go_wp2_with (first | (go_at_call 15;refine (ane x.hosts _ _ _ _ _ (bQ.ext atS) O' O').mono ?_;rintro e w0 ⟨rfl,hb0⟩;obtain ⟨hc0,hf0⟩:=ay hb0;have ahZ:w.heap.size < w0.heap.size:=(sq hb0.size);have hle0:=MW (a:=kL Host.wt x.hosts) (left:=left) O') | (go_at_call 16;refine (aiv x.au _ _ _ _ _ (dM.ext atS) O' O').mono ?_;rintro e w1 ⟨rfl,hb1⟩;obtain ⟨hc1,hf1⟩:=ay hb1;have zO:w.heap.size < w1.heap.size:=(sq hb1.size);have hle1:=MW (a:=kL Placed.wt x.au) (left:=(xu (kL Host.wt x.hosts) left)) O'))
 all_goals go_ret
 all_goals refine ⟨mQ ?_,by repeat (first | exact aj _ | assumption | refine ak ?_ _ | refine ah ?_ Y')⟩
 all_goals have s99:=bI x.wt left
 all_goals have s0:=bI (kL Host.wt x.hosts) left
 all_goals have s1:=bI (kL Placed.wt x.au) (xu (kL Host.wt x.hosts) left)
 all_goals (unfold aU.wt at s99 ⊢;try unfold wtS at s99 ⊢)
 all_goals omega
def Manifest.wt (x:Manifest):Nat:=x.aS.wt+x.host.wt
theorem ahw (x:Manifest) (cs:List Value) (F:List Nat) (left:Int) (w:World) (h:rd w x cs F) (h0:0≤left) (h1:left≤1048576) :
 Calls Tryz.prog 5 #[.agg cs.toArray,.int .i64 left] w fun e w'=>e = .returned (.int .i64 (xu x.wt left))∧Below w.heap.size w w':=by
 obtain ⟨_,_,_,_,rfl,rfl,⟨rfl,rfl,hkind⟩,_,_,_,_,rfl,rfl,WT,afd⟩:=h;have kG:=WT;obtain ⟨gV,gW,lF,iR,iT,mV,dD,dF,iH,rfl,rfl,nY,iE,rF,rG,oZ,je,dN⟩:=dL WT;have V8:=afd;obtain ⟨yx,yA,JV,yB,yC,JW,rfl,rfl,JX,EZ,NT,NU,Hf,E5⟩:=iy afd;replace hkind:I64 x.kind:=hkind;replace nY:=rV (s:=x.aS.name) nY;replace iE:Sl _ x.aS.labels gV gW _:=iE;replace rF:I64 x.aS.cpu:=rF;replace rG:I64 x.aS.mem:=rG;replace oZ:I64 x.aS.rank:=oZ;replace je:Sl _ x.aS.needs iR iT _:=je;replace dN:Sl _ x.aS.tolerances dD dF _:=dN;replace JX:=rV (s:=x.host.name) JX;replace EZ:Sl _ x.host.labels yx yA _:=EZ;replace NT:I64 x.host.cpu:=NT;replace NU:I64 x.host.mem:=NU;replace Hf:I64 x.host.slots:=Hf;replace E5:Sl _ x.host.aT yB yC _:=E5;replace kG:rd _ x.aS [.string x.aS.name,.slice gV x.aS.labels.length gW,.int .i64 x.aS.cpu,.int .i64 x.aS.mem,.int .i64 x.aS.rank,.slice iR x.aS.needs.length iT,.slice dD x.aS.tolerances.length dF] _:=kG;replace V8:rd _ x.host [.string x.host.name,.slice yx x.host.labels.length yA,.int .i64 x.host.cpu,.int .i64 x.host.mem,.int .i64 x.host.slots,.slice yB x.host.aT.length yC] _:=V8;simp only [List.cons_append,List.nil_append];go_enter Tryz.func5,Tryz.ntmps5;go_wp2_with (first | (go_at_call 17;refine (pG x.aS _ _ _ _ (Dat.frame kG (fun b hb=>(show Below w.heap.size w _ from atS).block b (Dat.lt kG b hb)) (show Below w.heap.size w _ from atS).size) O' O').mono ?_;rintro e w1 ⟨rfl,hb1⟩;obtain ⟨hc1,hf1⟩:=ay hb1;have zO:w.heap.size < w1.heap.size:=(sq hb1.size);have hle1:=MW (a:=x.aS.wt) (left:=left) O') | (go_at_call 18;refine (Vz x.host _ _ _ _ (Dat.frame V8 (fun b hb=>(show Below w.heap.size w _ from atS).block b (Dat.lt V8 b hb)) (show Below w.heap.size w _ from atS).size) O' O').mono ?_;rintro e w2 ⟨rfl,hb2⟩;obtain ⟨hc2,hf2⟩:=ay hb2;have al0:w.heap.size < w2.heap.size:=(sq hb2.size);have hle2:=MW (a:=x.host.wt) (left:=(xu x.aS.wt left)) O'))
 all_goals go_ret
 all_goals refine ⟨mQ ?_,by repeat (first | exact aj _ | assumption | refine ak ?_ _ | refine ah ?_ Y')⟩
 all_goals have s99:=bI x.wt left
 all_goals have s1:=bI x.aS.wt left
 all_goals have s2:=bI x.host.wt (xu x.aS.wt left)
 all_goals (unfold Manifest.wt at s99 ⊢;try unfold wtS at s99 ⊢)
 all_goals omega
def tV.wt (x:tV):Nat:=x.path.size
end Go.Proofs.YtkbkikggodlbbaaGreat
