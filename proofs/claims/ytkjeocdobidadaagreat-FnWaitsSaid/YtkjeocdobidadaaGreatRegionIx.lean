/- A region whose operations that only read may be taken first, wherever they stand in the text, and whose others come one behind the other. No condition. -/
import Derived.Test.YtkjeocdobidadaaGreatData
import Derived.Test.YtkjeocdobidadaaGreatStabP
import Derived.Lib.SmallJoins
import Derived.Sort.Grow
import Derived.Deep.Draws
import Derived.Test.YtkjeocdobidadaaGreatFrame
import Derived.Laws.BitsLemmas
import Derived.Lib.ItoaNum
import Derived.Shelf.Small.Bits
import Derived.Shelf.Bits.Mul64
import Derived.Test.YtkjeocdobidadaaGreatRows
import Derived.Test.YtkjeocdobidadaaGreatWords
namespace Go.Proofs.YtkjeocdobidadaaGreat
open Go.RowKit
set_option linter.unusedVariables false
def pick (l:List Oper):List Nat→List Oper
 | []=>[]
 | j :: js=>match l[j]? with | some o=>o :: pick l js | none=>pick l js
section
variable {P:Program} {ops:Array Oper} {md:Region.Mode} {C:World→Prop} {Q:Exit→Act→World→Prop}
def zY:List Nat→Array Bool→Array Bool
 | [],l=>l
 | k :: ks,l=>zY ks (l.setIfInBounds k true)
def VH (md:Region.Mode) (ops:Array Oper):List Nat→Array Bool→Bool
 | [],_=>true
 | k :: ks,listed=>Region.free md ops listed k&&(Region.ready md ops listed).contains k&&VH md ops ks (listed.setIfInBounds k true)
def VI (md:Region.Mode) (ops:Array Oper):List Nat→Array Bool→Bool
 | [],listed=>(Region.ready md ops listed).isEmpty
 | k :: ks,listed=>decide (Region.ready md ops listed = [k])&&VI md ops ks (listed.setIfInBounds k true)
theorem abU:∀(l:List Oper) (ks:List Nat) (listed:Array Bool) (a:Act) (w:World),l.toArray = ops→VI md ops ks listed = true→ED P ops C Q (pick l ks) a w→wpAnyH P md ops Q C ks.length listed a w
 | l,[],listed,a,w,hl,hB,h=>by
   simp only [VI,List.isEmpty_iff] at hB;exact ⟨hB,h⟩
 | l,k :: ks,listed,a,w,hl,hB,h=>by
   simp only [VI,Bool.and_eq_true,decide_eq_true_eq] at hB;obtain ⟨_,o,ho,_⟩:=mem_ready.1 (show k∈Region.ready md ops listed by rw [hB.1];simp);have hlo:l[k]? = some o:=(by rw [← hl] at ho;simpa using ho);simp only [pick,hlo] at h;refine wpAnyH_all hB.1 S' fun i hi=>?_;obtain rfl:i = k:=by simpa using hi
   unfold wpOp;simp only [ho];unfold ED at h;have next:∀a' w',C w'∧ED P ops C Q (pick l ks) a' w'→C w'∧wpAnyH P md ops Q C ks.length (listed.setIfInBounds i true) a' w':=fun a' w' hh =>
    ⟨hh.1,abU l ks _ a' w' hl hB.2 hh.2⟩
   exact Zady
theorem ZM (hs:Region.noSelect ops = true) (hQ:∀c a d v w,Q (.panic c) (Act.put a d v) w→Q (.panic c) a w) {w:World} (hC:C w):∀(l:List Oper) (js:List Nat) (g:Nat) (listed:Array Bool) (a:Act),l.toArray = ops →
 VH md ops js listed = true→OQ P ops C (fun a'=>wpAnyH P md ops Q C g (zY js listed) a' w) (pick l js) a→wpAnyH P md ops Q C (g+js.length) listed a w
 | l,[],g,listed,a,hl,hB,h=>h
 | l,k :: js,g,listed,a,hl,hB,h=>by
   simp only [VH,Bool.and_eq_true] at hB;obtain ⟨_,o,ho,_⟩:=mem_ready.1 (show k∈Region.ready md ops listed by simpa using hB.1.2);have hlo:l[k]? = some o:=(by rw [← hl] at ho;simpa using ho);simp only [pick,hlo] at h;obtain ⟨v,hy,hn⟩:=h;refine wpAnyH_take ho hs hB.1.1 hB.1.2 (fun c a' w'=>hQ c a' _ v w') hy hC ?_;exact ZM hs hQ hC l js g _ _ hl hB.2 hn
def ixB (ops:Array Oper) (js ks:List Nat):Bool:=Region.noSelect ops&&decide (ks.length+js.length = ops.size)&&VH .any ops js (Array.replicate ops.size false)&&VI .any ops ks (zY js (Array.replicate ops.size false))
theorem nS {id:Nat} {a:Act} {w:World} {l:List Oper} (w0:World) (js ks:List Nat) (hm:P.follows .mixedOrders = true) (hB:ixB l.toArray js ks = true) (hQ:∀c a d v w,Q (.panic c) (Act.put a d v) w→Q (.panic c) a w)
 (hw:Below w0.heap.size w0 w) (h:OQ P l.toArray (Cls w0) (fun a'=>ED P l.toArray (Cls w0) Q (pick l ks) a' w.drew) (pick l js) a):(Code.region id l.toArray true).wp P Q a w:=by
 simp only [ixB,Bool.and_eq_true,decide_eq_true_eq] at hB;obtain ⟨⟨⟨hs,hn⟩,hh⟩,hq⟩:=hB;have hC:Cls w0 w.drew:=aA hw;refine wp_region_held_drew (S:=Cls w0) hm hC fun _=>?_
 have mono:∀(m:List Oper) (b:Act),OQ P l.toArray (Cls w0) (fun a'=>ED P l.toArray (Cls w0) Q (pick l ks) a' w.drew) m b →
     OQ P l.toArray (Cls w0) (fun a'=>wpAnyH P .any l.toArray Q (Cls w0) ks.length (zY js (Array.replicate l.toArray.size false)) a' w.drew) m b:=by
  intro m;induction m with
  | nil=>intro b hb;exact abU (md:=.any) l ks _ b w.drew rfl hq hb
  | cons o m ih =>intro b ⟨v,hy,hb⟩;exact ⟨v,hy,ih _ hb⟩
 have:=ZM (md:=.any) (P:=P) (C:=Cls w0) hs hQ hC l js ks.length (Array.replicate l.toArray.size false) a rfl hh (mono _ _ h);rw [hn] at this;exact this
end
end Go.Proofs.YtkjeocdobidadaaGreat
namespace Go.Proofs.YtkjeocdobidadaaGreat
open Go.ChangeShapes Go.WideShapes Go.ChangeAt Go.RowKit
set_option linter.unusedVariables false
set_option linter.unusedSimpArgs false
def zL (p s f:Int):Bool:=(decide (0≤p)&&decide (p≤10))&&(decide (0≤s)&&decide (s≤10))&&(decide (0≤f)&&decide (f≤10))
theorem kH (n a b:Int) (w:World):Calls Tryz.prog 82 #[.int .i64 n,.int .i64 a,.int .i64 b] w fun e w'=>e = .returned (.bool (decide (a≤n)&&decide (n≤b)))∧w = w':=by
 go_enter Tryz.func82,Tryz.ntmps82;go_wp2;all_goals go_ret
 all_goals simp [*]
 all_goals omega
theorem jc (n a b:Int) (w:World):Calls Tryz.prog 62 #[.int .i64 n,.int .i64 a,.int .i64 b] w fun e w'=>e = .returned (.bool (decide (a≤n)&&decide (n≤b)))∧w = w':=by
 go_enter Tryz.func62,Tryz.ntmps62;go_wp2;all_goals go_ret
 all_goals simp [*]
 all_goals omega
theorem pW (p s f:Int) (w:World):Calls Tryz.prog 83 #[.agg #[.int .i64 p,.int .i64 s,.int .i64 f]] w fun e w'=>e = .returned (.bool (zL p s f))∧Below w.heap.size w w':=by
 go_enter Tryz.func83,Tryz.ntmps83;go_wp2_with (go_at_call 82;refine (kH _ _ _ _).mono ?_;rintro e w' ⟨rfl,rfl⟩)
 all_goals go_ret
 all_goals exact ⟨by simp [zL, *],(Below.refl _ _).alloc (Nat.le_refl _) _⟩
theorem pU (p s f:Int) (w:World):Calls Tryz.prog 18 #[.agg #[.int .i64 p,.int .i64 s,.int .i64 f]] w fun e w'=>e = .returned (.bool (zL p s f))∧Below w.heap.size w w':=by
 go_enter Tryz.func18,Tryz.ntmps18;go_wp2_with (go_at_call 62;refine (jc _ _ _ _).mono ?_;rintro e w' ⟨rfl,rfl⟩)
 all_goals go_ret
 all_goals exact ⟨by simp [zL, *],(Below.refl _ _).alloc (Nat.le_refl _) _⟩
end Go.Proofs.YtkjeocdobidadaaGreat
namespace Go.Proofs.YtkjeocdobidadaaGreat
open Go.ChangeShapes Go.WideShapes Go.ChangeAt Go.RowKit
def Gr (w w':World):Prop:=∃q os,w' = Go.Sort.grow (w.drewN q) os
theorem Gr.refl (w:World):Gr w w:=⟨0,#[],by simp [Go.Sort.grow,World.drewN]⟩
theorem Gr.alloc {w w':World} (h:Gr w w') (o:Obj):Gr w (w'.alloc o):=by
 obtain ⟨q,os,rfl⟩:=h;exact ⟨q,os.push o,by simp [Go.Sort.grow,World.alloc,World.drewN]⟩
theorem Gr.drew {w w':World} (h:Gr w w'):Gr w w'.drew:=by
 obtain ⟨q,os,rfl⟩:=h;exact ⟨q+1,os,rfl⟩
theorem Gr.trans {w w1 w2:World} (h:Gr w w1) (k:Gr w1 w2):Gr w w2:=by
 obtain ⟨q,os,rfl⟩:=h;obtain ⟨q2,os2,rfl⟩:=k;exact ⟨q+q2,os++os2,by simp [Go.Sort.grow,World.drewN,Nat.add_assoc]⟩
theorem Gr.below {w w':World} (h:Gr w w'):Below w.heap.size w w':=by
 obtain ⟨q,os,rfl⟩:=h;exact ⟨rfl,rfl,rfl,by simp [Go.Sort.grow,World.drewN],fun k hk=>by simp [Go.Sort.grow,World.drewN,Array.getElem?_append_left hk]⟩
end Go.Proofs.YtkjeocdobidadaaGreat
namespace Go.Proofs.YtkjeocdobidadaaGreat
open Go.ChangeShapes Go.WideShapes Go.ChangeAt Go.RowKit
set_option linter.unusedVariables false
set_option linter.unusedSimpArgs false
set_option maxRecDepth 4000
structure Dig (un v1 v0 u0 q r:Nat):Prop where
 sum:q * v1+r = un
 low:r < 4294967296
 above:un * 4294967296+u0 < (q+1) * (v1 * 4294967296+v0)
 few:q≤4294967297
theorem afz {un v1 v0 u0 q r:Nat} (h:Dig un v1 v0 u0 q r):q * (v1 * 4294967296+v0)+r * 4294967296 = un * 4294967296+q * v0:=by
 have e:=h.sum;rw [Nat.mul_add,← Nat.mul_assoc,← e,Nat.add_mul,Nat.add_right_comm]
theorem Dig.over {un v1 v0 u0 q r:Nat} (h:Dig un v1 v0 u0 q r) (hun:un < v1 * 4294967296+v0) (h1:2147483648≤v1) (hu:u0 < 4294967296) (ht:4294967296≤q∨4294967296 * r+u0 < q * v0):un * 4294967296+u0 < q * (v1 * 4294967296+v0):=by
 rcases ht with ht | ht
 ·have:4294967296 * (v1 * 4294967296+v0)≤q * (v1 * 4294967296+v0):=Nat.mul_le_mul_right _ ht;omega
 ·have:=afz h;omega
theorem Dig.done {un v1 v0 u0 q r:Nat} (h:Dig un v1 v0 u0 q r) (h1:2147483648≤v1) (ht:q * v0≤4294967296 * r+u0):q = (un * 4294967296+u0) / (v1 * 4294967296+v0):=by
 have:=afz h;have ha:=h.above;have:(un * 4294967296+u0) / (v1 * 4294967296+v0) = q:=by
  rw [Nat.div_eq_iff O'];have:(q+1) * (v1 * 4294967296+v0) = q * (v1 * 4294967296+v0)+(v1 * 4294967296+v0):=by rw [Nat.add_mul];omega
  omega
 exact this.symm
theorem Dig.pos {un v1 v0 u0 q r:Nat} (h:un * 4294967296+u0 < q * (v1 * 4294967296+v0)):0 < q:=by
 cases q with
 | zero=>simp at h
 | succ q=>omega
theorem Dig.next {un v1 v0 u0 q r:Nat} (h:Dig un v1 v0 u0 q r) (ho:un * 4294967296+u0 < q * (v1 * 4294967296+v0)) (hr:r+v1 < 4294967296):Dig un v1 v0 u0 (q - 1) (r+v1):=by
 have hq:=Dig.pos (r:=r) ho;obtain ⟨k,rfl⟩:∃k,q = k+1:=⟨q - 1,O'⟩;have e:=h.sum;rw [Nat.add_mul] at e;exact ⟨by simp only [Nat.add_sub_cancel];omega,hr,by simpa using ho,by have:=h.few;omega⟩
structure aqI (hi lo y S Y v1 v0 un L u1 u0:Nat):Prop where
 eY:IntKind.u64.wrap ((y:Int) * 2 ^ S) = (Y:Int)
 ev1:(Y:Int) / 4294967296 = (v1:Int)
 ev0:bits .and .u64 (Y:Int) 4294967295 = (v0:Int)
 eun:bits .or .u64 (IntKind.u64.wrap ((hi:Int) * 2 ^ S)) ((lo:Int) / 2 ^ (64 - S)) = (un:Int)
 eL:IntKind.u64.wrap ((lo:Int) * 2 ^ S) = (L:Int)
 eu1:(L:Int) / 4294967296 = (u1:Int)
 eu0:bits .and .u64 (L:Int) 4294967295 = (u0:Int)
 lv1:2147483648≤v1
 lv1b:v1 < 4294967296
 lv0:v0 < 4294967296
 lu1:u1 < 4294967296
 lu0:u0 < 4294967296
 lY:Y = v1 * 4294967296+v0
 lun:un < Y
 whole:(un * 4294967296+u1) * 4294967296+u0 = (hi * 18446744073709551616+lo) * 2 ^ S
 yY:Y = y * 2 ^ S
theorem apY {part whole n rest:Nat} (h:n * whole+rest = 100 * part) (hr:rest < whole):n = 100 * part / whole:=by
 have:100 * part / whole = n:=by rw [Nat.div_eq_iff O'];omega
 exact this.symm
end Go.Proofs.YtkjeocdobidadaaGreat
namespace Go.Proofs.YtkjeocdobidadaaGreat
open Go.ChangeShapes Go.WideShapes Go.ChangeAt Go.RowKit
theorem outcome_ofK {P:Program} {C:World→Prop} {v:Value} {r:Result Next} {w:World} (e:r = .ok (.value v) w) (h:C w):outcome P C v r:=by subst e;exact ⟨h,rfl⟩
end Go.Proofs.YtkjeocdobidadaaGreat
namespace Go.Proofs.YtkjeocdobidadaaGreat
open Go.ChangeShapes Go.WideShapes Go.ChangeAt Go.RowKit
set_option linter.unusedVariables false
set_option linter.unusedSimpArgs false
def CQ (part whole:Int):Int:=if whole≤0∨part < 0 then 0 else if whole≤part then 100 else 100 * part / whole
theorem Ot {part whole:Int} (h:whole≤0∨part < 0):CQ part whole = 0:=by unfold CQ;rw [if_pos h]
theorem aa2 {part whole:Int} (h1:¬whole≤0) (h2:¬part < 0) (h:whole≤part):CQ part whole = 100:=by unfold CQ;rw [if_neg O',if_pos h]
theorem aa3 {P W:Nat} (hW:0 < W) (h:P < W):CQ P W = ((100 * P / W:Nat):Int):=by
 unfold CQ;rw [if_neg O',if_neg O',Int.natCast_ediv,Int.natCast_mul];rfl
theorem zJ (part whole:Int):0≤CQ part whole∧CQ part whole≤100:=by
 by_cases h1:whole≤0∨part < 0
 ·rw [Ot h1];omega
 ·by_cases h2:whole≤part
  ·rw [aa2 O' O' h2];omega
  ·obtain ⟨P,rfl⟩:∃P:Nat,part = P:=⟨part.toNat,O'⟩;obtain ⟨W,rfl⟩:∃W:Nat,whole = W:=⟨whole.toNat,O'⟩;rw [aa3 O' O'];have:100 * P / W≤100:=(by rw [Nat.div_le_iff_le_mul_add_pred O'];rw [Nat.mul_comm W 100];have:100 * P≤100 * W:=Nat.mul_le_mul_left _ O';omega);generalize 100 * P / W = Q at *;omega
end Go.Proofs.YtkjeocdobidadaaGreat
namespace Go.Proofs.YtkjeocdobidadaaGreat
open Go.ChangeShapes Go.WideShapes Go.ChangeAt Go.RowKit
set_option linter.unusedVariables false
set_option linter.unusedSimpArgs false
set_option maxHeartbeats 2000000
set_option maxRecDepth 100000
theorem IB (part whole:Int) (w:World) (hp:I64 part) (hw:I64 whole) :
 Calls Tryz.prog 41 #[.int .i64 part,.int .i64 whole] w fun e w'=>e = .returned (.int .i64 (CQ part whole))∧Below w.heap.size w w':=by
 by_cases h1:whole≤0
 ·have hd:decide (whole≤0) = true:=by rw [decide_eq_true_eq];exact h1
  have hs:=I' (Ot (part:=part) (.inl h1));exact Zadt
 have hd:decide (whole≤0) = false:=by rw [decide_eq_false_iff_not];exact h1
 by_cases h2:part < 0
 ·have hd2:decide (part < 0) = true:=by rw [decide_eq_true_eq];exact h2
  have hs:=I' (Ot (whole:=whole) (.inr h2));exact Zadt
 have hd2:decide (part < 0) = false:=by rw [decide_eq_false_iff_not];exact h2
 by_cases h3:whole≤part
 ·have hd3:decide (whole≤part) = true:=by rw [decide_eq_true_eq];exact h3
  have hs:=I' (aa2 h1 h2 h3);exact Zadt
 have hd3:decide (whole≤part) = false:=by rw [decide_eq_false_iff_not];exact h3
 obtain ⟨P,rfl⟩:∃P:Nat,part = P:=⟨part.toNat,O'⟩;obtain ⟨W,rfl⟩:∃W:Nat,whole = W:=⟨whole.toNat,O'⟩;have hW:W < 9223372036854775808:=by have:=hw.2;omega
 have hPW:P < W:=by omega
 have hs:=I' (aa3 (P:=P) (W:=W) O' hPW);have hW0:0 < W:=by omega
 clear hp hw h1 h2 h3;go_enter Tryz.func41,Tryz.ntmps41;go_wp2_with fail
 go_loopw [5,6,7] (fun n r i wr=>∃(j N R:Nat),j≤100∧n = .int .i64 N∧r = .int .i64 R∧i = .int .i64 j∧Hid (N * W+R = j * P)∧R < W∧N≤j∧wr = w) (fun _ _ i _=>100 - (intOf i).toNat)
 case atStart=>exact ⟨0,0,0,O',rfl,rfl,rfl,I' S',hW0,Nat.le_refl _,rfl⟩
 case round =>
  obtain ⟨j,N,R,hj,rfl,rfl,rfl,HN,hR,hNj,rfl⟩:=hrel;by_cases hlt:(j:Int) < 100
  ·by_cases hc:(W:Int) - (P:Int)≤(R:Int)
   ·have hcd:decide ((W:Int) - (P:Int)≤(R:Int)) = true:=(by rw [decide_eq_true_eq];exact hc);go_wp2_with fail
    refine ⟨⟨j+1,N+1,R - (W - P),O',N',N',N',I' ?_,O',O',(by first | rfl | trivial)⟩,by simp [intOf];omega⟩;have:=HN.out;rw [Nat.add_mul,Nat.add_mul];omega
   ·have hcd:decide ((W:Int) - (P:Int)≤(R:Int)) = false:=(by rw [decide_eq_false_iff_not];exact hc);go_wp2_with fail
    refine ⟨⟨j+1,N,R+P,O',rfl,N',N',I' ?_,O',O',(by first | rfl | trivial)⟩,by simp [intOf];omega⟩;have:=HN.out;rw [Nat.add_mul j];omega
  ·obtain rfl:j = 100:=by omega
   go_wp2_with fail
   go_ret
   exact ⟨by rw [hs.out,← apY HN.out hR];rfl,aj _⟩
end Go.Proofs.YtkjeocdobidadaaGreat
namespace Go.Proofs.YtkjeocdobidadaaGreat
open Go.ChangeShapes Go.WideShapes Go.ChangeAt Go.RowKit
set_option linter.unusedVariables false
set_option linter.unusedSimpArgs false
set_option maxHeartbeats 1000000
set_option maxRecDepth 100000
def nmB (c:UInt8):Bool:=agP c.toNat || agQ c.toNat || decide ((c.toNat:Int) = 45)
def Qs (s:ByteArray):Bool:=decide (0 < s.size∧(s.size:Int)≤20)&&(!decide (((s.data.toList.getD 0 0).toNat:Int) = 45)&&!decide (((s.data.toList.getD (s.size - 1) 0).toNat:Int) = 45))&&s.data.toList.all nmB
theorem aiW (c:UInt8):(nmB c = false∧((c.toNat:Int) < 45∨(45 < (c.toNat:Int)∧(c.toNat:Int) < 48)∨(57 < (c.toNat:Int)∧(c.toNat:Int) < 65)∨(65≤(c.toNat:Int)∧(c.toNat:Int)≤90)∨(90 < (c.toNat:Int)∧(c.toNat:Int) < 97)∨122 < (c.toNat:Int))) ∨
 (nmB c = true∧((c.toNat:Int) = 45∨(48≤(c.toNat:Int)∧(c.toNat:Int)≤57)∨(97≤(c.toNat:Int)∧(c.toNat:Int)≤122))):=by
 cases h:nmB c
 ·left;refine ⟨rfl,?_⟩;unfold nmB agP agQ at h;simp at h;omega
 ·right;refine ⟨rfl,?_⟩;unfold nmB agP agQ at h;simp at h;omega
theorem amv {s:ByteArray} (hs:0 < s.size) (hl:(s.size:Int)≤20) (h0:(s[0].toNat:Int)≠45) (h1:(s[s.size - 1].toNat:Int)≠45) (ha:s.data.toList.all nmB = true):Qs s = true:=by
 unfold Qs;rw [DF hs,DF (show s.size - 1 < s.size by omega),ha];simp [hs,hl,h0,h1]
theorem aiX {s:ByteArray} (h:¬(0 < s.size∧(s.size:Int)≤20)):Qs s = false:=by unfold Qs;simp only [h,decide_false,Bool.false_and]
theorem adR {s:ByteArray} (hs:0 < s.size) (h:(s[0].toNat:Int) = 45):Qs s = false:=by unfold Qs;rw [DF hs];simp [h]
theorem agR {s:ByteArray} (hs:0 < s.size) (h:(s[s.size - 1].toNat:Int) = 45):Qs s = false:=by unfold Qs;rw [DF (show s.size - 1 < s.size by omega)];simp [h]
theorem agS {s:ByteArray} {k:Nat} (hk:k < s.size) (h:nmB s[k] = false):Qs s = false:=by unfold Qs;rw [TM hk h];simp
theorem Ro (s:ByteArray) (w:World) (hs2:(s.size:Int)≤1048576):Calls Tryz.prog 108 #[.string s] w fun e w'=>e = .returned (.bool (Qs s))∧Below w.heap.size w w':=by
 go_enter Tryz.func108,Tryz.ntmps108;go_wp2_with fail
 go_loop [7] (fun v=>∃(k:Nat),k≤s.size∧v = .int .i64 k∧Hid (∀j (hj:j < s.size),j < k→nmB s[j] = true)) (fun v=>s.size - (intOf v).toNat)
 case atStart=>exact ⟨0,Nat.zero_le _,rfl,fun j _ hj=>by omega⟩
 case round =>
  obtain ⟨k,hk,rfl,hall⟩:=hrel;by_cases hlt:k < s.size
  ·rcases aiW s[k] with ⟨hb,hr⟩ | ⟨hb,hr⟩
   ·exact Zacn
   ·have HN:=I' (X4 hlt hall.out hb);clear hb;rcases hr with hr | ⟨hr,hr2⟩ | ⟨hr,hr2⟩
    all_goals
     go_wp2;exact ⟨⟨k+1,O',N',HN.out⟩,by simp [intOf];omega⟩
  ·have hkl:k = s.size:=O';subst hkl;have ha:=I' (YX (p:=nmB) (fun j hj=>hall.out j hj hj));by_cases hln:0 < s.size∧(s.size:Int)≤20
   ·obtain ⟨hs,hl⟩:=hln;have hz:((s.size:Int) == 0) = false:=(by rw [beq_eq_false_iff_ne];omega);by_cases h0:(s[0].toNat:Int) = 45
    ·have HF:=I' (adR hs h0);skip
     exact Zaa1
    ·by_cases h1:(s[s.size - 1].toNat:Int) = 45
     ·have HF:=I' (agR hs h1);skip
      exact Zaa1
     ·have h0':((s[0].toNat:Int) != 45) = true:=(by simp [h0]);have h1':((s[s.size - 1].toNat:Int) != 45) = true:=(by simp [h1]);have h0'':((s[0].toNat:Int) == 45) = false:=(by simp [h0]);have h1'':((s[s.size - 1].toNat:Int) == 45) = false:=(by simp [h1]);have HF:=I' (amv hs hl h0 h1 ha.out);exact Zaa1
   ·have HF:=I' (aiX hln);have hln2:¬((1:Int)≤s.size∧(s.size:Int)≤20):=O';by_cases hs:0 < s.size
    ·have hz:((s.size:Int) == 0) = false:=(by rw [beq_eq_false_iff_ne];omega);have hgt:(20:Int) < s.size:=O';skip
     exact Zaa1
    ·have hs0:(s.size:Int) = 0:=O';skip
     exact Zaa1
theorem Rq (s:ByteArray) (w:World) (hs2:(s.size:Int)≤1048576):Calls Tryz.prog 129 #[.string s] w fun e w'=>e = .returned (.bool (Qs s))∧Below w.heap.size w w':=by
 by_cases hln:0 < s.size∧(s.size:Int)≤20
 ·obtain ⟨hs,hl⟩:=hln;have hz:((s.size:Int) == 0) = false:=by rw [beq_eq_false_iff_ne];omega
  by_cases h0:(s[0].toNat:Int) = 45
  ·have HF:=I' (adR hs h0);go_enter Tryz.func129,Tryz.ntmps129;exact Zaa1
  ·by_cases h1:(s[s.size - 1].toNat:Int) = 45
   ·have HF:=I' (agR hs h1);go_enter Tryz.func129,Tryz.ntmps129;exact Zaa1
   ·have h0':((s[0].toNat:Int) != 45) = true:=(by simp [h0]);have h1':((s[s.size - 1].toNat:Int) != 45) = true:=(by simp [h1]);have h0'':((s[0].toNat:Int) == 45) = false:=(by simp [h0]);have h1'':((s[s.size - 1].toNat:Int) == 45) = false:=(by simp [h1]);go_enter Tryz.func129,Tryz.ntmps129;go_wp2;go_loopw [3] (fun v wr=>∃(k:Nat),k≤s.size∧v = .int .i64 k∧Hid (∀j (hj:j < s.size),j < k→nmB s[j] = true)∧Below w.heap.size w wr) (fun v _=>s.size - (intOf v).toNat)
    case atStart=>exact ⟨0,Nat.zero_le _,rfl,(fun j _ hj=>by omega),aj _⟩
    case round =>
     obtain ⟨k,hk,rfl,hall,hbl⟩:=hrel;by_cases hlt:k < s.size
     ·rcases aiW s[k] with ⟨hb,hr⟩ | ⟨hb,hr⟩
      ·exact Zacn
      ·have HN:=I' (X4 hlt hall.out hb);clear hb;rcases hr with hr | ⟨hr,hr2⟩ | ⟨hr,hr2⟩
       all_goals
        go_wp2;exact ⟨⟨k+1,O',N',HN.out,hbl⟩,by simp [intOf];omega⟩
     ·have hkl:k = s.size:=O';subst hkl;have ha:=I' (YX (p:=nmB) (fun j hj=>hall.out j hj hj));have HF:=I' (amv hs hl h0 h1 ha.out);exact Zaa1
 ·have HF:=I' (aiX hln);have hln2:¬((1:Int)≤s.size∧(s.size:Int)≤20):=by omega
  by_cases hs:0 < s.size
  ·have hz:((s.size:Int) == 0) = false:=(by rw [beq_eq_false_iff_ne];omega);have hgt:(20:Int) < s.size:=O';go_enter Tryz.func129,Tryz.ntmps129;exact Zaa1
  ·have hs0:(s.size:Int) = 0:=O';go_enter Tryz.func129,Tryz.ntmps129;exact Zaa1
end Go.Proofs.YtkjeocdobidadaaGreat
