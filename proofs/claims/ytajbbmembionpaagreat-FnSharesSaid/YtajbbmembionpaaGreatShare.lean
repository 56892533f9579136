/- ShareOf, of the program and of the reference. No condition. -/
import Derived.Test.YtajbbmembionpaaGreatDivI
import Derived.Test.YtajbbmembionpaaGreatNames
namespace Go.Proofs.YtajbbmembionpaaGreat
open Go.ChangeShapes Go.WideShapes Go.ChangeAt Go.RowKit
set_option linter.unusedVariables false
set_option linter.unusedSimpArgs false
set_option maxHeartbeats 2000000
set_option maxRecDepth 100000
theorem VD (part whole:Int) (w:World) (hp:br part) (hw:br whole) :
 Calls Tryz.prog 22 #[.int .i64 part,.int .i64 whole] w fun e w'=>e = .returned (.int .i64 (CQ part whole))∧Below w.heap.size w w':=by
 by_cases h1:whole≤0
 ·have hd:decide (whole≤0) = true:=by rw [decide_eq_true_eq];exact h1
  have hs:=I (Ot (part:=part) (.inl h1));go_enter Tryz.func22,Tryz.ntmps22;exact oS
 have hd:decide (whole≤0) = false:=by rw [decide_eq_false_iff_not];exact h1
 by_cases h2:part < 0
 ·have Kx:decide (part < 0) = true:=by rw [decide_eq_true_eq];exact h2
  have hs:=I (Ot (whole:=whole) (.inr h2));go_enter Tryz.func22,Tryz.ntmps22;exact oS
 have Kx:decide (part < 0) = false:=by rw [decide_eq_false_iff_not];exact h2
 by_cases h3:whole≤part
 ·have FL:decide (whole≤part) = true:=by rw [decide_eq_true_eq];exact h3
  have hs:=I (Kv h1 h2 h3);go_enter Tryz.func22,Tryz.ntmps22;exact oS
 have FL:decide (whole≤part) = false:=by rw [decide_eq_false_iff_not];exact h3
 obtain ⟨P,rfl⟩:∃P:Nat,part = P:=⟨part.toNat,J⟩;obtain ⟨W,rfl⟩:∃W:Nat,whole = W:=⟨whole.toNat,J⟩;have hW:W < 9223372036854775808:=by have:=hw.2;omega
 have Nu:P < W:=by omega
 have hs:=I (M9 (P:=P) (W:=W) J Nu);have eP:Value.int .u64 (IntKind.u64.wrap (P:Int)) = Value.int .u64 (P:Int):=by rw [J7 _ J]
 have eW:Value.int .u64 (IntKind.u64.wrap (W:Int)) = Value.int .u64 (W:Int):=by rw [J7 _ J]
 have hq:=I (show (P * 100 / 18446744073709551616 * 18446744073709551616+P * 100 % 18446744073709551616) / W = 100 * P / W by rw [Nat.div_add_mod',Nat.mul_comm]);have ax:P * 100 / 18446744073709551616 < W:=by omega
 have Z6:P * 100 % 18446744073709551616 < 18446744073709551616:=Nat.mod_lt _ (by decide);obtain ⟨Q,hQ⟩:∃Q,100 * P / W = Q:=⟨_,rfl⟩;have Z7:Q≤100:=by have:=(zJ (P:Int) (W:Int)).2;rw [hs.out,hQ] at this;omega
 have eQ:=ZS Q Z7;go_enter Tryz.func22,Tryz.ntmps22;go_wp2_with fail
 refine (ZV P 100 J J _).mono ?_;rintro e w2 ⟨rfl,rn⟩;simp only [rn];clear rn w2;generalize P * 100 / 18446744073709551616 = A at *;generalize P * 100 % 18446744073709551616 = B at *;go_wp2_with fail
 refine (Z5 A B W Z6 J ax _).mono ?_;rw [hq.out,hQ];rintro e w3 ⟨⟨r,rfl⟩,bb⟩;go_wp2_with fail
 go_ret
 exact ⟨by rw [hs.out,hQ];rfl,bb⟩
theorem IB (part whole:Int) (w:World) (hp:br part) (hw:br whole) :
 Calls Tryz.prog 28 #[.int .i64 part,.int .i64 whole] w fun e w'=>e = .returned (.int .i64 (CQ part whole))∧Below w.heap.size w w':=by
 by_cases h1:whole≤0
 ·have hd:decide (whole≤0) = true:=by rw [decide_eq_true_eq];exact h1
  have hs:=I (Ot (part:=part) (.inl h1));go_enter Tryz.func28,Tryz.ntmps28;exact oS
 have hd:decide (whole≤0) = false:=by rw [decide_eq_false_iff_not];exact h1
 by_cases h2:part < 0
 ·have Kx:decide (part < 0) = true:=by rw [decide_eq_true_eq];exact h2
  have hs:=I (Ot (whole:=whole) (.inr h2));go_enter Tryz.func28,Tryz.ntmps28;exact oS
 have Kx:decide (part < 0) = false:=by rw [decide_eq_false_iff_not];exact h2
 by_cases h3:whole≤part
 ·have FL:decide (whole≤part) = true:=by rw [decide_eq_true_eq];exact h3
  have hs:=I (Kv h1 h2 h3);go_enter Tryz.func28,Tryz.ntmps28;exact oS
 have FL:decide (whole≤part) = false:=by rw [decide_eq_false_iff_not];exact h3
 obtain ⟨P,rfl⟩:∃P:Nat,part = P:=⟨part.toNat,J⟩;obtain ⟨W,rfl⟩:∃W:Nat,whole = W:=⟨whole.toNat,J⟩;have hW:W < 9223372036854775808:=by have:=hw.2;omega
 have Nu:P < W:=by omega
 have hs:=I (M9 (P:=P) (W:=W) J Nu);have p':0 < W:=by omega
 clear hp hw h1 h2 h3;go_enter Tryz.func28,Tryz.ntmps28;go_wp2_with fail
 go_loopw [5,6,7] (fun n r i wr=>∃(j N R:Nat),j≤100∧n = .int .i64 N∧r = .int .i64 R∧i = .int .i64 j∧Hid (N * W+R = j * P)∧R < W∧N≤j∧wr = w) (fun _ _ i _=>100 - (intOf i).toNat)
 case atStart=>exact ⟨0,0,0,J,rfl,rfl,rfl,I S',p',Nat.le_refl _,rfl⟩
 case round =>
  obtain ⟨j,N,R,hj,rfl,rfl,rfl,HN,hR,hNj,rfl⟩:=hrel;by_cases ax:(j:Int) < 100
  ·by_cases hc:(W:Int) - (P:Int)≤(R:Int)
   ·have yL:decide ((W:Int) - (P:Int)≤(R:Int)) = true:=(by rw [decide_eq_true_eq];exact hc);go_wp2_with fail
    refine ⟨⟨j+1,N+1,R - (W - P),J,N',N',N',I ?_,J,J,(by first | rfl | trivial)⟩,by simp [intOf];omega⟩;have:=HN.out;rw [Nat.add_mul,Nat.add_mul];omega
   ·have yL:decide ((W:Int) - (P:Int)≤(R:Int)) = false:=(by rw [decide_eq_false_iff_not];exact hc);go_wp2_with fail
    refine ⟨⟨j+1,N,R+P,J,rfl,N',N',I ?_,J,J,(by first | rfl | trivial)⟩,by simp [intOf];omega⟩;have:=HN.out;rw [Nat.add_mul j];omega
  ·obtain rfl:j = 100:=by omega
   go_wp2_with fail
   go_ret
   exact ⟨by rw [hs.out,← Z4 HN.out hR];rfl,aj _⟩
section
variable {P:Program} {ops:Array Oper} {md:Region.Mode} {C:World→Prop} {Q:Exit→Act→World→Prop}
def vv (ops:Array Oper) (js ks:List Nat) (m:Nat):Bool :=
 Region.noSelect ops&&decide (m+(ks.length+js.length) = ops.size)&&VH .any ops js (Array.replicate ops.size false)&&Fd .any ops ks (zY js (Array.replicate ops.size false))&&js.all (fun i=>Fc .any ops (zY ks (zY js (Array.replicate ops.size false))) i)
theorem azp {id:Nat} {a:Act} {w:World} {l:List Oper} (C C2:World→Prop) (js ks:List Nat) (m:Nat) (hm:P.follows .mixedOrders = true) (hB:vv l.toArray js ks m = true) (hQ:∀c a d v w,Q (.panic c) (Act.put a d v) w→Q (.panic c) a w)
 (hC:C w.drew) (h:OQ P l.toArray C (fun a'=>Lr P l.toArray C Q (kW P l Q C2 m (zY ks (zY js (Array.replicate l.toArray.size false)))) (d9 l ks) a' w.drew) (d9 l js) a):(Code.region id l.toArray true).wp P Q a w:=by
 simp only [vv,Bool.and_eq_true] at hB;obtain ⟨⟨⟨⟨hs,Z⟩,hh⟩,hk⟩,hg⟩:=hB;rw [decide_eq_true_eq] at Z;let L:=zY ks (zY js (Array.replicate l.toArray.size false))
 let E:Array Bool→Act→World→Prop:=fun q b w'=>q = L∧kW P l Q C2 m L b w'
 have mono:∀(zz:List Oper) (b:Act),OQ P l.toArray C (fun a'=>Lr P l.toArray C Q (kW P l Q C2 m (zY ks (zY js (Array.replicate l.toArray.size false)))) (d9 l ks) a' w.drew) zz b →
     OQ P l.toArray C (fun a'=>V6 P .any l.toArray Q C E ks.length (zY js (Array.replicate l.toArray.size false)) a' w.drew) zz b:=by
  intro zz;induction zz with
  | nil =>
    intro b X;refine Mu (md:=.any) l ks _ b w.drew rfl hk ?_;have e:E (zY ks (zY js (Array.replicate l.toArray.size false))) = kW P l Q C2 m (zY ks (zY js (Array.replicate l.toArray.size false))):=by
     funext b w';exact propext ⟨fun h=>h.2,fun h=>⟨rfl,h⟩⟩
    rw [e];exact X
  | cons o zz ih =>intro b ⟨v,hy,X⟩;exact ⟨v,hy,ih _ X⟩
 have h1:=ZX (md:=.any) (P:=P) (C:=C) (E:=E) hs hQ hC L (fun l a w he=>he.1) l js ks.length (Array.replicate l.toArray.size false) a rfl hh hg (mono _ _ h)
 have h2:=Kc (md:=.any) (P:=P) (C:=C) (E:=E) (m:=m) (fun q b w' he=>by
  obtain ⟨rfl,hl⟩:=he
  exact wpAny_of_held _ _ _ _ hl) _ _ _ _ h1
 rw [Z] at h2;exact wp_region_any hm h2
end
section
variable {P:Program} {l:List Oper} {C:World→Prop} {Q:Exit→Act→World→Prop} {L:Array Bool}
def vx (P:Program) (l:List Oper) (Q:Exit→Act→World→Prop) (L:Array Bool):Array Bool→Act→World→Prop:=fun q b w'=>q = L∧kW P l Q (fun _=>True) 1 L b w'
def pD (P:Program) (l:List Oper) (Q:Exit→Act→World→Prop) (C:World→Prop) (L:Array Bool) (n:Nat) (al:Array Bool) (a:Act) (w:World):Prop:=V6 P .any l.toArray Q C (vx P l Q L) n al a w
theorem Un {id:Nat} {a:Act} {w:World} (C:World→Prop) (L:Array Bool) (n:Nat) (hm:P.follows .mixedOrders = true) (Z:l.toArray.size = n+1) (hw:C w.drew)
 (h:pD P l Q C L n (Array.replicate (n+1) false) a w.drew):(Code.region id l.toArray true).wp P Q a w:=by
 have h2:=Kc (md:=.any) (P:=P) (m:=1) (fun q b w' he=>by
  obtain ⟨rfl,hl⟩:=he
  exact wpAny_of_held _ _ _ _ hl) _ _ _ _ h
 refine wp_region_any hm ?_;rw [Z,Nat.add_comm n 1];rw [Nat.add_comm n 1] at h2;exact h2
theorem bX {n:Nat} {al:Array Bool} {a:Act} {w:World} (i:Nat) {o:Oper} (v:Value) (ho:l[i]? = some o) (hB:(Region.noSelect l.toArray&&Region.free .any l.toArray al i&&(Region.ready .any l.toArray al).contains i&&Fc .any l.toArray L i) = true)
 (hQ:∀c a d v w,Q (.panic c) (Act.put a d v) w→Q (.panic c) a w) (hC:C w) (hy:YieldsIf P l.toArray C o v a) (h:pD P l Q C L n (al.setIfInBounds i true) (a.put o.dst v) w):pD P l Q C L (n+1) al a w:=by
 simp only [Bool.and_eq_true] at hB;have AP:l.toArray[i]? = some o:=by simpa using ho
 exact Rn AP (Region.noSelect_spec hB.1.1.1) (fun c a' w'=>hQ c a' _ v w') (fun q b w' he=>by obtain ⟨rfl,_⟩:=he;exact Ro hB.2) n al a w (Region.free_spec AP hB.1.1.2) (by simpa using hB.1.2) hy hC h
theorem OG {n:Nat} {al:Array Bool} {a:Act} {w:World} {i:Nat} {o:Oper} (ho:l[i]? = some o) (hw:Region.wanted o (yielded l.toArray a.tmps) = true)
 (h:∀K:Act→World→Prop,(∀a' w',C w'→pD P l Q C L n (al.setIfInBounds i true) a' w'→K a' w')→o.wp P a w K Q) :
 wpOp P l.toArray Q i (fun a' w'=>C w'∧V6 P .any l.toArray Q C (vx P l Q L) n (al.setIfInBounds i true) a' w') a w:=by
 unfold wpOp;rw [show l.toArray[i]? = some o by simpa using ho];dsimp only;rw [if_pos hw];exact .inl (h _ fun a' w' h1 h2=>⟨h1,h2⟩)
theorem cc {n:Nat} {al:Array Bool} {a:Act} {w:World} (i:Nat) {o:Oper} (ho:l[i]? = some o) (hr:Region.ready .any l.toArray al = [i]) (hw:Region.wanted o (yielded l.toArray a.tmps) = true)
 (h:∀K:Act→World→Prop,(∀a' w',C w'→pD P l Q C L n (al.setIfInBounds i true) a' w'→K a' w')→o.wp P a w K Q):pD P l Q C L (n+1) al a w :=
 ⟨by rw [hr];simp,fun j hj=>by
  obtain rfl:j = i:=by rw [hr] at hj;simpa using hj
  exact OG ho hw h⟩
theorem jp {n:Nat} {al:Array Bool} {a:Act} {w:World} (i j:Nat) {o o':Oper} (ho:l[i]? = some o) (AP:l[j]? = some o') (hr:Region.ready .any l.toArray al = [i,j]) (hw:Region.wanted o (yielded l.toArray a.tmps) = true) (fN:Region.wanted o' (yielded l.toArray a.tmps) = true)
 (h:∀K:Act→World→Prop,(∀a' w',C w'→pD P l Q C L n (al.setIfInBounds i true) a' w'→K a' w')→o.wp P a w K Q)
 (h':∀K:Act→World→Prop,(∀a' w',C w'→pD P l Q C L n (al.setIfInBounds j true) a' w'→K a' w')→o'.wp P a w K Q):pD P l Q C L (n+1) al a w :=
 ⟨by rw [hr];simp,fun k hk=>by
  rw [hr] at hk;simp only [List.mem_cons,List.not_mem_nil,or_false] at hk;rcases hk with rfl | rfl
  ·exact OG ho hw h
  ·exact OG AP fN h'⟩
theorem oC {n:Nat} {al:Array Bool} {a:Act} {w:World} (E:Act→Act→World→Prop) (hE:∀a' w',E a a' w'→Q .normal a' w') (h:(∀a' w',E a a' w'→Q .normal a' w')→pD P l Q C L n al a w):pD P l Q C L n al a w:=h hE
theorem kg {al:Array Bool} {a:Act} {w:World} (hL:al = L) (h:kW P l Q (fun _=>True) 1 L a w):pD P l Q C L 0 al a w:=⟨hL,h⟩
end
def uE:ByteArray:=⟨#[45,95,46,47]⟩
def qm:ByteArray:=⟨#[45,95,46]⟩
def Cm (s:ByteArray):Bool:=decide ((s.size:Int)≤30)&&GN uE s
def AQ (s:ByteArray):Bool:=decide (s.size = 0) || (decide ((s.size:Int)≤20)&&GN qm s)
theorem Ou {o s:ByteArray} (h:¬0 < s.size):GN o s = false:=by unfold GN;simp [h]
theorem Y4 {s:ByteArray} (h:s.size = 0):s = ⟨#[]⟩:=by
 obtain ⟨d⟩:=s;congr 1;exact Array.eq_empty_of_size_eq_zero h
theorem Y3 {s:ByteArray} (h:0 < s.size):(s.toList == []) = false:=by
 rw [beq_eq_false_iff_ne];intro e;rw [ByteArray.toList_eq] at e;have h2:s.data.toList.length = 0:=by rw [e];rfl
 rw [Array.length_toList] at h2;have h3:s.size = s.data.size:=rfl;omega
theorem rX (s:ByteArray) (w:World) (cR:(s.size:Int)≤1048576):Calls Tryz.prog 155 #[.string s] w fun e w'=>e = .returned (.bool (Cm s))∧Below w.heap.size w w':=by
 by_cases hs:0 < s.size
 ·have hz:((s.size:Int) == 0) = false:=by rw [beq_eq_false_iff_ne];omega
  by_cases h30:(s.size:Int)≤30
  ·cases hW:GN uE s
   all_goals
    have bi:Cm s = _:=(by unfold Cm;rw [hW]);simp only [h30,decide_true,Bool.true_and] at bi;have HF:=I bi;have HW:=I hW;clear bi hW;go_enter Tryz.func155,Tryz.ntmps155;go_wp2_with (first | (go_at_call 164;refine (Qy s uE _ hs J).mono ?_;rw [HW.out];rintro e w2 ⟨rfl,hw⟩;rw [hw];clear hw w2) | go_in)
    go_ret
    exact ⟨by rw [HF.out];rfl,bJ⟩
  ·have bi:Cm s = false:=(by unfold Cm;simp [h30]);have HF:=I bi;clear bi;go_enter Tryz.func155,Tryz.ntmps155;exact ej
 ·have bi:Cm s = false:=by unfold Cm;rw [Ou hs];simp
  have HF:=I bi;have jz:(s.size:Int) = 0:=by omega
  have HW:=I (Ou (o:=uE) hs);clear bi;go_enter Tryz.func155,Tryz.ntmps155;exact ej
theorem xQ (s:ByteArray) (w:World) (cR:(s.size:Int)≤1048576):Calls Tryz.prog 156 #[.string s] w fun e w'=>e = .returned (.bool (AQ s))∧Below w.heap.size w w':=by
 by_cases hs:0 < s.size
 ·have hz:((s.size:Int) == 0) = false:=by rw [beq_eq_false_iff_ne];omega
  have b4:=Y3 hs;have jz:¬s.size = 0:=by omega
  by_cases h30:(s.size:Int)≤20
  ·cases hW:GN qm s
   all_goals
    have bi:AQ s = _:=(by unfold AQ;rw [hW]);simp only [h30,jz,decide_true,decide_false,Bool.true_and,Bool.false_or] at bi;have HF:=I bi;have HW:=I hW;clear bi hW;go_enter Tryz.func156,Tryz.ntmps156;go_wp2_with (first | (go_at_call 164;refine (Qy s qm _ hs J).mono ?_;rw [HW.out];rintro e w2 ⟨rfl,hw⟩;rw [hw];clear hw w2) | go_in)
    go_ret
    exact ⟨by rw [HF.out];rfl,bJ⟩
  ·have bi:AQ s = false:=(by unfold AQ;simp [h30,jz]);have HF:=I bi;clear bi;go_enter Tryz.func156,Tryz.ntmps156;exact ej
 ·obtain rfl:=Y4 (s:=s) J;go_enter Tryz.func156,Tryz.ntmps156;go_wp2;go_ret
  exact ⟨O,bJ⟩
theorem qK (s:ByteArray) (w:World) (cR:(s.size:Int)≤1048576):Calls Tryz.prog 123 #[.string s] w fun e w'=>e = .returned (.bool (Cm s))∧Below w.heap.size w w':=by
 by_cases hs:0 < s.size
 ·have hz:((s.size:Int) == 0) = false:=by rw [beq_eq_false_iff_ne];omega
  by_cases h30:(s.size:Int)≤30
  ·cases hW:GN uE s
   all_goals
    have bi:Cm s = _:=(by unfold Cm;rw [hW]);simp only [h30,decide_true,Bool.true_and] at bi;have HF:=I bi;have HW:=I hW;clear bi hW;go_enter Tryz.func123,Tryz.ntmps123;go_wp2_with (first | (go_at_call 152;refine (Wu s uE _ J (by decide)).mono ?_;rw [HW.out];rintro e w2 ⟨rfl,ar⟩) | go_in)
    go_ret
    exact ⟨by rw [HF.out];rfl,bJ⟩
  ·have bi:Cm s = false:=(by unfold Cm;simp [h30]);have HF:=I bi;clear bi;go_enter Tryz.func123,Tryz.ntmps123;exact ej
 ·have bi:Cm s = false:=by unfold Cm;rw [Ou hs];simp
  have HF:=I bi;have jz:(s.size:Int) = 0:=by omega
  have HW:=I (Ou (o:=uE) hs);clear bi;go_enter Tryz.func123,Tryz.ntmps123;go_wp2_with (first | (go_at_call 152;refine (Wu s uE _ J (by decide)).mono ?_;rw [HW.out];rintro e w2 ⟨rfl,ar⟩) | go_in)
  go_ret
  exact ⟨by rw [HF.out];rfl,bJ⟩
theorem vH (s:ByteArray) (w:World) (cR:(s.size:Int)≤1048576):Calls Tryz.prog 124 #[.string s] w fun e w'=>e = .returned (.bool (AQ s))∧Below w.heap.size w w':=by
 by_cases hs:0 < s.size
 ·have hz:((s.size:Int) == 0) = false:=by rw [beq_eq_false_iff_ne];omega
  have b4:=Y3 hs;have jz:¬s.size = 0:=by omega
  by_cases h30:(s.size:Int)≤20
  ·cases hW:GN qm s
   all_goals
    have bi:AQ s = _:=(by unfold AQ;rw [hW]);simp only [h30,jz,decide_true,decide_false,Bool.true_and,Bool.false_or] at bi;have HF:=I bi;have HW:=I hW;clear bi hW;go_enter Tryz.func124,Tryz.ntmps124;go_wp2_with (first | (go_at_call 152;refine (Wu s qm _ J (by decide)).mono ?_;rw [HW.out];rintro e w2 ⟨rfl,ar⟩) | go_in)
    go_ret
    exact ⟨by rw [HF.out];rfl,bJ⟩
  ·have bi:AQ s = false:=(by unfold AQ;simp [h30,jz]);have HF:=I bi;clear bi;go_enter Tryz.func124,Tryz.ntmps124;exact ej
 ·obtain rfl:=Y4 (s:=s) J;go_enter Tryz.func124,Tryz.ntmps124;go_wp2;go_ret
  exact ⟨O,bJ⟩
theorem Wn {s:ByteArray} (h:(s.toList == []) = true):AQ s = true:=by
 have h1:s.toList = []:=by simpa using h
 have h2:s.size = 0:=by exact D3
 unfold AQ;simp [h2]
theorem Wp {s:ByteArray} (h:(s.toList == []) = true):Cm s = false:=by
 have h1:s.toList = []:=by simpa using h
 have h2:s.size = 0:=by exact D3
 unfold Cm;rw [Ou J];simp
theorem Kz (l:List UInt8):l.isEmpty = (l == []):=by cases l <;> rfl
def Dp (x:iU):Bool:=Cm x.key&&AQ x.value&&(decide (1≤x.ao)&&decide (x.ao≤2))
theorem V9 (x:iU) (cs:List Value) (F:List Nat) (w:World) (h:rd w x cs F) (gd:(x.key.size:Int)≤1048576) (mT:(x.value.size:Int)≤1048576) :
 Calls Tryz.prog 137 #[.agg cs.toArray] w fun e w'=>e = .returned (.bool (Dp x))∧Below w.heap.size w w':=by
 obtain ⟨aE,qp,cf,kP,lD⟩:=oK h;subst aE;clear qp h;have gY:=I (Wn (s:=x.value));have g0:=I (Wp (s:=x.key));go_enter Tryz.func137,Tryz.ntmps137
 go_wp2_with (first
  | (go_at_call 155;refine (rX x.key _ gd).mono ?_;rintro e w2 ⟨rfl,ar⟩;obtain ⟨cq,cL⟩:=ay ar;have cw:w.heap.size < w2.heap.size:=(sq ar.size))
  | (go_at_call 156;refine (xQ x.value _ mT).mono ?_;rintro e w3 ⟨rfl,bb⟩;obtain ⟨dm,hf3⟩:=ay bb;have cU:w.heap.size < w3.heap.size:=(sq bb.size))
  | go_in)
 all_goals first
  | (go_ret;refine ⟨?_,bJ⟩;refine congrArg (fun b=>Ending.returned (Value.bool b)) ?_;show (_:Bool) = _;(try clear cq cL);(try clear dm hf3);unfold Dp;(try simp only [Kz]);first | (simp [*];done) | (simp [*];omega) | (have QL:=gY.out;have QM:=g0.out;clear gY g0;(try clear ar);(try clear bb);simp at QL QM;simp_all;done) | (have QL:=gY.out;have QM:=g0.out;clear gY g0;(try clear ar);(try clear bb);simp at QL QM;simp_all;omega) | (have QL:=gY.out;have QM:=g0.out;clear gY g0;(try clear ar);(try clear bb);simp at QL QM;simp_all;exact Bool.or_comm _ _))
  | skip
theorem Wh (x:iU) (cs:List Value) (F:List Nat) (w:World) (h:rd w x cs F) (gd:(x.key.size:Int)≤1048576) (mT:(x.value.size:Int)≤1048576) :
 Calls Tryz.prog 138 #[.agg cs.toArray] w fun e w'=>e = .returned (.bool (Dp x))∧Below w.heap.size w w':=by
 obtain ⟨aE,qp,cf,kP,lD⟩:=oK h;subst aE;clear qp h;have gY:=I (Wn (s:=x.value));have g0:=I (Wp (s:=x.key));go_enter Tryz.func138,Tryz.ntmps138
 go_wp2_with (first
  | (go_at_call 123;refine (qK x.key _ gd).mono ?_;rintro e w2 ⟨rfl,ar⟩;obtain ⟨cq,cL⟩:=ay ar;have cw:w.heap.size < w2.heap.size:=(sq ar.size))
  | (go_at_call 124;refine (vH x.value _ mT).mono ?_;rintro e w3 ⟨rfl,bb⟩;obtain ⟨dm,hf3⟩:=ay bb;have cU:w.heap.size < w3.heap.size:=(sq bb.size))
  | go_in)
 all_goals first
  | (go_ret;refine ⟨?_,bJ⟩;refine congrArg (fun b=>Ending.returned (Value.bool b)) ?_;show (_:Bool) = _;(try clear cq cL);(try clear dm hf3);unfold Dp;(try simp only [Kz]);first | (simp [*];done) | (simp [*];omega) | (have QL:=gY.out;have QM:=g0.out;clear gY g0;(try clear ar);(try clear bb);simp at QL QM;simp_all;done) | (have QL:=gY.out;have QM:=g0.out;clear gY g0;(try clear ar);(try clear bb);simp at QL QM;simp_all;omega) | (have QL:=gY.out;have QM:=g0.out;clear gY g0;(try clear ar);(try clear bb);simp at QL QM;simp_all;exact Bool.or_comm _ _))
  | skip
def Q5 (x:bH):Bool:=(Cm x.key || (x.key.toList == [])&&!x.equal)&&AQ x.value&&((x.value.toList == []) || x.equal)&&(decide (0≤x.ao)&&decide (x.ao≤2))
def AY (t:bH) (x:iU):Bool:=Q5 t&&Dp x&&((t.key.toList == []) || t.key.toList == x.key.toList)&&(!t.equal || t.value.toList == x.value.toList)&&(t.ao == 0 || t.ao == x.ao)
theorem Na (x:bH) (cs:List Value) (F:List Nat) (w:World) (h:rd w x cs F) (gd:(x.key.size:Int)≤1048576) (mT:(x.value.size:Int)≤1048576) :
 Calls Tryz.prog 136 #[.agg cs.toArray] w fun e w'=>e = .returned (.bool (Q5 x))∧Below w.heap.size w w':=by
 obtain ⟨aE,qp,cf,kP,lD⟩:=jv h;subst aE;clear qp h;have gY:=I (Wn (s:=x.value));have g0:=I (Wp (s:=x.key));go_enter Tryz.func136,Tryz.ntmps136
 go_wp2_with (first
  | (go_at_call 155;refine (rX x.key _ gd).mono ?_;rintro e w2 ⟨rfl,ar⟩;obtain ⟨cq,cL⟩:=ay ar;have cw:w.heap.size < w2.heap.size:=(sq ar.size))
  | (go_at_call 156;refine (xQ x.value _ mT).mono ?_;rintro e w3 ⟨rfl,bb⟩;obtain ⟨dm,hf3⟩:=ay bb;have cU:w.heap.size < w3.heap.size:=(sq bb.size))
  | go_in)
 all_goals first
  | (go_ret;refine ⟨?_,bJ⟩;refine congrArg (fun b=>Ending.returned (Value.bool b)) ?_;show (_:Bool) = _;(try clear cq cL);(try clear dm hf3);unfold Q5;(try simp only [Kz]);first | (simp [*];done) | (simp [*];omega) | (have QL:=gY.out;have QM:=g0.out;clear gY g0;(try clear ar);(try clear bb);simp at QL QM;simp_all;done) | (have QL:=gY.out;have QM:=g0.out;clear gY g0;(try clear ar);(try clear bb);simp at QL QM;simp_all;omega) | (have QL:=gY.out;have QM:=g0.out;clear gY g0;(try clear ar);(try clear bb);simp at QL QM;simp_all;exact Bool.or_comm _ _))
  | skip
theorem Nb (x:bH) (cs:List Value) (F:List Nat) (w:World) (h:rd w x cs F) (gd:(x.key.size:Int)≤1048576) (mT:(x.value.size:Int)≤1048576) :
 Calls Tryz.prog 126 #[.agg cs.toArray] w fun e w'=>e = .returned (.bool (Q5 x))∧Below w.heap.size w w':=by
 obtain ⟨aE,qp,cf,kP,lD⟩:=jv h;subst aE;clear qp h;have gY:=I (Wn (s:=x.value));have g0:=I (Wp (s:=x.key));go_enter Tryz.func126,Tryz.ntmps126
 go_wp2_with (first
  | (go_at_call 123;refine (qK x.key _ gd).mono ?_;rintro e w2 ⟨rfl,ar⟩;obtain ⟨cq,cL⟩:=ay ar;have cw:w.heap.size < w2.heap.size:=(sq ar.size))
  | (go_at_call 124;refine (vH x.value _ mT).mono ?_;rintro e w3 ⟨rfl,bb⟩;obtain ⟨dm,hf3⟩:=ay bb;have cU:w.heap.size < w3.heap.size:=(sq bb.size))
  | go_in)
 all_goals first
  | (go_ret;refine ⟨?_,bJ⟩;refine congrArg (fun b=>Ending.returned (Value.bool b)) ?_;show (_:Bool) = _;(try clear cq cL);(try clear dm hf3);unfold Q5;(try simp only [Kz]);first | (simp [*];done) | (simp [*];omega) | (have QL:=gY.out;have QM:=g0.out;clear gY g0;(try clear ar);(try clear bb);simp at QL QM;simp_all;done) | (have QL:=gY.out;have QM:=g0.out;clear gY g0;(try clear ar);(try clear bb);simp at QL QM;simp_all;omega) | (have QL:=gY.out;have QM:=g0.out;clear gY g0;(try clear ar);(try clear bb);simp at QL QM;simp_all;exact Bool.or_comm _ _))
  | skip
end Go.Proofs.YtajbbmembionpaaGreat
