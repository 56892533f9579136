/- Small lemmas for laws. No condition. -/
import Derived.Test.YtnjibbpcafgglaaGreatRegion
import Derived.Test.YtnjibbpcafgglaaGreatAppend
import Derived.Test.YtnjibbpcafgglaaGreatEq
import Derived.Test.YtnjibbpcafgglaaGreatMarks0
namespace Go.Proofs.YtnjibbpcafgglaaGreat
open Go.ChangeShapes Go.WideShapes Go.ChangeAt Go.RowKit
set_option linter.unusedVariables false
set_option linter.unusedSimpArgs false
theorem aZ {α:Type} [Dat α] {w w':World} {x:α} {cs:List Value} {F:List Nat} (h:rd w x cs F) (hb:Below w.heap.size w w'):rd w' x cs F :=
 Dat.frame h (fun b hb'=>hb.block b (Dat.lt h b hb')) hb.size
theorem EO {B:Nat} {W w1:World} (hb:Below B W w1):(∀b o,b < B→w1.cell? ⟨b,o,none⟩ = W.cell? ⟨b,o,none⟩)∧(∀b o,b < B→w1.frozen? ⟨b,o,none⟩ = W.frozen? ⟨b,o,none⟩) :=
 ⟨fun b o h=>hb.cell (p:=⟨b,o,none⟩) h,fun b o h=>hb.frozen (p:=⟨b,o,none⟩) h⟩
theorem YT {α:Type} {eq:α→α→Bool} (h:∀a,eq a a = true):∀l,same eq l l = true
 | []=>rfl
 | a :: l=>by simp [same,h,YT h l]
theorem amc (l:List Int):same Am l l = true:=YT (fun a=>(apZ a a).2 rfl) l
theorem abK (l:List ByteArray):same eqStr l l = true:=YT (fun a=>(PW a a).2 rfl) l
end Go.Proofs.YtnjibbpcafgglaaGreat
namespace Go.Proofs.YtnjibbpcafgglaaGreat
open Go.ChangeShapes Go.WideShapes Go.ChangeAt Go.RowKit
set_option linter.unusedVariables false
set_option linter.unusedSimpArgs false
end Go.Proofs.YtnjibbpcafgglaaGreat
namespace Go.Proofs.YtnjibbpcafgglaaGreat
open Go.RowKit
set_option linter.unusedVariables false
def pick (l:List Oper):List Nat→List Oper
 | []=>[]
 | j :: js=>match l[j]? with | some o=>o :: pick l js | none=>pick l js
section
variable {P:Program} {ops:Array Oper} {md:Region.Mode} {C:World→Prop} {Q:Exit→Act→World→Prop}
def zY:List Nat→Array Bool→Array Bool
 | [],l=>l
 | k :: ks,l=>zY ks (l.setIfInBounds k true)
def VH (md:Region.Mode) (ops:Array Oper):List Nat→Array Bool→Bool
 | [],_=>true
 | k :: ks,listed=>Region.free md ops listed k&&(Region.ready md ops listed).contains k&&VH md ops ks (listed.setIfInBounds k true)
def VI (md:Region.Mode) (ops:Array Oper):List Nat→Array Bool→Bool
 | [],listed=>(Region.ready md ops listed).isEmpty
 | k :: ks,listed=>decide (Region.ready md ops listed = [k])&&VI md ops ks (listed.setIfInBounds k true)
theorem abU:∀(l:List Oper) (ks:List Nat) (listed:Array Bool) (a:Act) (w:World),l.toArray = ops→VI md ops ks listed = true→ED P ops C Q (pick l ks) a w→wpAnyH P md ops Q C ks.length listed a w
 | l,[],listed,a,w,hl,hB,h=>by
   simp only [VI,List.isEmpty_iff] at hB
   exact ⟨hB,h⟩
 | l,k :: ks,listed,a,w,hl,hB,h=>by
   simp only [VI,Bool.and_eq_true,decide_eq_true_eq] at hB
   obtain ⟨_,o,ho,_⟩:=mem_ready.1 (show k∈Region.ready md ops listed by rw [hB.1];simp)
   have hlo:l[k]? = some o:=by rw [← hl] at ho;simpa using ho
   simp only [pick,hlo] at h
   refine wpAnyH_all hB.1 (by simp) fun i hi=>?_
   obtain rfl:i = k:=by simpa using hi
   unfold wpOp
   simp only [ho]
   unfold ED at h
   have next:∀a' w',C w'∧ED P ops C Q (pick l ks) a' w'→C w'∧wpAnyH P md ops Q C ks.length (listed.setIfInBounds i true) a' w':=fun a' w' hh =>
    ⟨hh.1,abU l ks _ a' w' hl hB.2 hh.2⟩
   split
   ·rename_i hw
    rw [if_pos hw] at h
    exact .inl (Oper.wp_mono next h)
   ·rename_i hw
    rw [if_neg hw] at h
    exact next _ _ h
theorem ZM (hs:Region.noSelect ops = true) (hQ:∀c a d v w,Q (.panic c) (Act.put a d v) w→Q (.panic c) a w) {w:World} (hC:C w):∀(l:List Oper) (js:List Nat) (g:Nat) (listed:Array Bool) (a:Act),l.toArray = ops →
 VH md ops js listed = true→OQ P ops C (fun a'=>wpAnyH P md ops Q C g (zY js listed) a' w) (pick l js) a→wpAnyH P md ops Q C (g+js.length) listed a w
 | l,[],g,listed,a,hl,hB,h=>h
 | l,k :: js,g,listed,a,hl,hB,h=>by
   simp only [VH,Bool.and_eq_true] at hB
   obtain ⟨_,o,ho,_⟩:=mem_ready.1 (show k∈Region.ready md ops listed by simpa using hB.1.2)
   have hlo:l[k]? = some o:=by rw [← hl] at ho;simpa using ho
   simp only [pick,hlo] at h
   obtain ⟨v,hy,hn⟩:=h
   refine wpAnyH_take ho hs hB.1.1 hB.1.2 (fun c a' w'=>hQ c a' _ v w') hy hC ?_
   exact ZM hs hQ hC l js g _ _ hl hB.2 hn
def ixB (ops:Array Oper) (js ks:List Nat):Bool:=Region.noSelect ops&&decide (ks.length+js.length = ops.size)&&VH .any ops js (Array.replicate ops.size false)&&VI .any ops ks (zY js (Array.replicate ops.size false))
theorem nS {id:Nat} {a:Act} {w:World} {l:List Oper} (w0:World) (js ks:List Nat) (hm:P.follows .mixedOrders = true) (hB:ixB l.toArray js ks = true) (hQ:∀c a d v w,Q (.panic c) (Act.put a d v) w→Q (.panic c) a w)
 (hw:Below w0.heap.size w0 w) (h:OQ P l.toArray (Cls w0) (fun a'=>ED P l.toArray (Cls w0) Q (pick l ks) a' w.drew) (pick l js) a):(Code.region id l.toArray true).wp P Q a w:=by
 simp only [ixB,Bool.and_eq_true,decide_eq_true_eq] at hB
 obtain ⟨⟨⟨hs,hn⟩,hh⟩,hq⟩:=hB
 have hC:Cls w0 w.drew:=aA hw
 refine wp_region_held_drew (S:=Cls w0) hm hC fun _=>?_
 have mono:∀(m:List Oper) (b:Act),OQ P l.toArray (Cls w0) (fun a'=>ED P l.toArray (Cls w0) Q (pick l ks) a' w.drew) m b →
     OQ P l.toArray (Cls w0) (fun a'=>wpAnyH P .any l.toArray Q (Cls w0) ks.length (zY js (Array.replicate l.toArray.size false)) a' w.drew) m b:=by
  intro m
  induction m with
  | nil=>intro b hb;exact abU (md:=.any) l ks _ b w.drew rfl hq hb
  | cons o m ih =>
    intro b ⟨v,hy,hb⟩
    exact ⟨v,hy,ih _ hb⟩
 have:=ZM (md:=.any) (P:=P) (C:=Cls w0) hs hQ hC l js ks.length (Array.replicate l.toArray.size false) a rfl hh (mono _ _ h)
 rw [hn] at this
 exact this
end
end Go.Proofs.YtnjibbpcafgglaaGreat
