/- Blocks with given cells. No condition. -/
import Derived.Test.YtajbbmembionpaaGreatAt
namespace Go.Proofs.YtajbbmembionpaaGreat
open Go.ChangeShapes Go.WideShapes Go.ChangeAt Go.RowKit
set_option linter.unusedVariables false
set_option linter.unusedSimpArgs false
def oG (w:World) (g:Nat) (cs:List Value):Prop:=∃t,w.heap[g]? = some (.cells cs.toArray t (0,0))
section
variable {w w':World} {g:Nat} {cs:List Value}
theorem oG.lt (h:oG w g cs):g < w.heap.size:=by
 obtain ⟨t,h⟩:=h;rcases Nat.lt_or_ge g w.heap.size with ax | nP
 ·exact ax
 ·rw [Array.getElem?_eq_none nP] at h;cases h
theorem oG.cell (h:oG w g cs) {i:Nat} {u:Value} (hi:cs[i]? = some u):w.cell? ⟨g,i,none⟩ = some u:=by
 obtain ⟨t,h⟩:=h;rw [cell_of_row w g i _ t (0,0) h];simpa using hi
theorem oG.fz (h:oG w g cs) (i:Nat):w.frozen? ⟨g,i,none⟩ = false:=by obtain ⟨t,h⟩:=h;simp [World.frozen?,h]
theorem oG.bs (h:oG w g cs) (hk:w'.heap[g]? = w.heap[g]?):oG w' g cs:=by obtain ⟨t,h⟩:=h;exact ⟨t,hk.trans h⟩
theorem oG.put (h:oG w g cs) (i:Nat) (u:Value):oG (w.setCell ⟨g,i,none⟩ u) g (cs.set i u):=by
 obtain ⟨t,h⟩:=h;exact ⟨t,by simp [World.setCell,Array.getElem?_modify,h]⟩
theorem oG.bj (h:oG w g cs) {c:Nat} (hc:c≠g) (i:Nat) (u:Value):oG (w.setCell ⟨c,i,none⟩ u) g cs:=h.bs (Below.heap_setCell _ _ _ _ bA)
theorem oG.new (w:World) (cs:List Value) (t:TypeId):oG (w.alloc (.cells cs.toArray t)) w.heap.size cs:=⟨t,heap_alloc_new w _⟩
theorem oG.ext (h:oG w g cs) (X:Below w.heap.size w w'):oG w' g cs:=h.bs (X.block g h.lt)
theorem oG.bR {b:Nat} (h:oG w g cs) (hu:nN [b] w w') (hg:g≠b):oG w' g cs:=h.bs (hu.block g h.lt (by simpa using hg))
end
theorem W3 {w:World} {g:Nat} {a0 a1 a2:Value} {r:List Value} (h:oG w g (a0::a1::a2::r)):w.cell? ⟨g,0,none⟩ = some a0∧w.cell? ⟨g,1,none⟩ = some a1∧w.cell? ⟨g,2,none⟩ = some a2:=⟨h.cell (i:=0) rfl,h.cell (i:=1) rfl,h.cell (i:=2) rfl⟩
theorem dr {w:World} {g:Nat} {a0 a1 a2 a3 a4 a5:Value} {r:List Value} (h:oG w g (a0::a1::a2::a3::a4::a5::r)):w.cell? ⟨g,0,none⟩ = some a0∧w.cell? ⟨g,1,none⟩ = some a1∧w.cell? ⟨g,2,none⟩ = some a2∧w.cell? ⟨g,3,none⟩ = some a3∧w.cell? ⟨g,4,none⟩ = some a4∧w.cell? ⟨g,5,none⟩ = some a5:=⟨h.cell (i:=0) rfl,h.cell (i:=1) rfl,h.cell (i:=2) rfl,h.cell (i:=3) rfl,h.cell (i:=4) rfl,h.cell (i:=5) rfl⟩
theorem pH {w:World} {g:Nat} {a0 a1 a2 a3 a4 a5 a6:Value} {r:List Value} (h:oG w g (a0::a1::a2::a3::a4::a5::a6::r)):w.cell? ⟨g,0,none⟩ = some a0∧w.cell? ⟨g,1,none⟩ = some a1∧w.cell? ⟨g,2,none⟩ = some a2∧w.cell? ⟨g,3,none⟩ = some a3∧w.cell? ⟨g,4,none⟩ = some a4∧w.cell? ⟨g,5,none⟩ = some a5∧w.cell? ⟨g,6,none⟩ = some a6:=⟨h.cell (i:=0) rfl,h.cell (i:=1) rfl,h.cell (i:=2) rfl,h.cell (i:=3) rfl,h.cell (i:=4) rfl,h.cell (i:=5) rfl,h.cell (i:=6) rfl⟩
theorem W4 {w:World} {g:Nat} {a0 a1 a2 a3 a4 a5 a6 a7 a8:Value} {r:List Value} (h:oG w g (a0::a1::a2::a3::a4::a5::a6::a7::a8::r)):w.cell? ⟨g,0,none⟩ = some a0∧w.cell? ⟨g,1,none⟩ = some a1∧w.cell? ⟨g,2,none⟩ = some a2∧w.cell? ⟨g,3,none⟩ = some a3∧w.cell? ⟨g,4,none⟩ = some a4∧w.cell? ⟨g,5,none⟩ = some a5∧w.cell? ⟨g,6,none⟩ = some a6∧w.cell? ⟨g,7,none⟩ = some a7∧w.cell? ⟨g,8,none⟩ = some a8:=⟨h.cell (i:=0) rfl,h.cell (i:=1) rfl,h.cell (i:=2) rfl,h.cell (i:=3) rfl,h.cell (i:=4) rfl,h.cell (i:=5) rfl,h.cell (i:=6) rfl,h.cell (i:=7) rfl,h.cell (i:=8) rfl⟩
theorem qr {w:World} {g:Nat} {a0 a1 a2:Value} {r:List Value} (h:oG w g (a0::a1::a2::r)):w.cell? ⟨g,0,none⟩ = some a0∧w.frozen? ⟨g,0,none⟩ = false∧w.cell? ⟨g,1,none⟩ = some a1∧w.frozen? ⟨g,1,none⟩ = false∧w.cell? ⟨g,2,none⟩ = some a2∧w.frozen? ⟨g,2,none⟩ = false:=⟨h.cell (i:=0) rfl,h.fz 0,h.cell (i:=1) rfl,h.fz 1,h.cell (i:=2) rfl,h.fz 2⟩
theorem n' {w:World} {g:Nat} {a0 a1 a2 a3:Value} {r:List Value} (h:oG w g (a0::a1::a2::a3::r)):w.cell? ⟨g,0,none⟩ = some a0∧w.frozen? ⟨g,0,none⟩ = false∧w.cell? ⟨g,1,none⟩ = some a1∧w.frozen? ⟨g,1,none⟩ = false∧w.cell? ⟨g,2,none⟩ = some a2∧w.frozen? ⟨g,2,none⟩ = false∧w.cell? ⟨g,3,none⟩ = some a3∧w.frozen? ⟨g,3,none⟩ = false:=⟨h.cell (i:=0) rfl,h.fz 0,h.cell (i:=1) rfl,h.fz 1,h.cell (i:=2) rfl,h.fz 2,h.cell (i:=3) rfl,h.fz 3⟩
theorem oa {w:World} {g:Nat} {a0 a1 a2 a3 a4 a5:Value} {r:List Value} (h:oG w g (a0::a1::a2::a3::a4::a5::r)):w.cell? ⟨g,0,none⟩ = some a0∧w.frozen? ⟨g,0,none⟩ = false∧w.cell? ⟨g,1,none⟩ = some a1∧w.frozen? ⟨g,1,none⟩ = false∧w.cell? ⟨g,2,none⟩ = some a2∧w.frozen? ⟨g,2,none⟩ = false∧w.cell? ⟨g,3,none⟩ = some a3∧w.frozen? ⟨g,3,none⟩ = false∧w.cell? ⟨g,4,none⟩ = some a4∧w.frozen? ⟨g,4,none⟩ = false∧w.cell? ⟨g,5,none⟩ = some a5∧w.frozen? ⟨g,5,none⟩ = false:=⟨h.cell (i:=0) rfl,h.fz 0,h.cell (i:=1) rfl,h.fz 1,h.cell (i:=2) rfl,h.fz 2,h.cell (i:=3) rfl,h.fz 3,h.cell (i:=4) rfl,h.fz 4,h.cell (i:=5) rfl,h.fz 5⟩
theorem fv {w:World} {g:Nat} {a0 a1 a2 a3 a4 a5 a6:Value} {r:List Value} (h:oG w g (a0::a1::a2::a3::a4::a5::a6::r)):w.cell? ⟨g,0,none⟩ = some a0∧w.frozen? ⟨g,0,none⟩ = false∧w.cell? ⟨g,1,none⟩ = some a1∧w.frozen? ⟨g,1,none⟩ = false∧w.cell? ⟨g,2,none⟩ = some a2∧w.frozen? ⟨g,2,none⟩ = false∧w.cell? ⟨g,3,none⟩ = some a3∧w.frozen? ⟨g,3,none⟩ = false∧w.cell? ⟨g,4,none⟩ = some a4∧w.frozen? ⟨g,4,none⟩ = false∧w.cell? ⟨g,5,none⟩ = some a5∧w.frozen? ⟨g,5,none⟩ = false∧w.cell? ⟨g,6,none⟩ = some a6∧w.frozen? ⟨g,6,none⟩ = false:=⟨h.cell (i:=0) rfl,h.fz 0,h.cell (i:=1) rfl,h.fz 1,h.cell (i:=2) rfl,h.fz 2,h.cell (i:=3) rfl,h.fz 3,h.cell (i:=4) rfl,h.fz 4,h.cell (i:=5) rfl,h.fz 5,h.cell (i:=6) rfl,h.fz 6⟩
theorem EU {w:World} {g:Nat} {a0 a1 a2 a3 a4 a5 a6 a7 a8 a9 QT QU a12 QV:Value} {r:List Value} (h:oG w g (a0::a1::a2::a3::a4::a5::a6::a7::a8::a9::QT::QU::a12::QV::r)):w.cell? ⟨g,0,none⟩ = some a0∧w.frozen? ⟨g,0,none⟩ = false∧w.cell? ⟨g,1,none⟩ = some a1∧w.frozen? ⟨g,1,none⟩ = false∧w.cell? ⟨g,2,none⟩ = some a2∧w.frozen? ⟨g,2,none⟩ = false∧w.cell? ⟨g,3,none⟩ = some a3∧w.frozen? ⟨g,3,none⟩ = false∧w.cell? ⟨g,4,none⟩ = some a4∧w.frozen? ⟨g,4,none⟩ = false∧w.cell? ⟨g,5,none⟩ = some a5∧w.frozen? ⟨g,5,none⟩ = false∧w.cell? ⟨g,6,none⟩ = some a6∧w.frozen? ⟨g,6,none⟩ = false∧w.cell? ⟨g,7,none⟩ = some a7∧w.frozen? ⟨g,7,none⟩ = false∧w.cell? ⟨g,8,none⟩ = some a8∧w.frozen? ⟨g,8,none⟩ = false∧w.cell? ⟨g,9,none⟩ = some a9∧w.frozen? ⟨g,9,none⟩ = false∧w.cell? ⟨g,10,none⟩ = some QT∧w.frozen? ⟨g,10,none⟩ = false∧w.cell? ⟨g,11,none⟩ = some QU∧w.frozen? ⟨g,11,none⟩ = false∧w.cell? ⟨g,12,none⟩ = some a12∧w.frozen? ⟨g,12,none⟩ = false∧w.cell? ⟨g,13,none⟩ = some QV∧w.frozen? ⟨g,13,none⟩ = false:=⟨h.cell (i:=0) rfl,h.fz 0,h.cell (i:=1) rfl,h.fz 1,h.cell (i:=2) rfl,h.fz 2,h.cell (i:=3) rfl,h.fz 3,h.cell (i:=4) rfl,h.fz 4,h.cell (i:=5) rfl,h.fz 5,h.cell (i:=6) rfl,h.fz 6,h.cell (i:=7) rfl,h.fz 7,h.cell (i:=8) rfl,h.fz 8,h.cell (i:=9) rfl,h.fz 9,h.cell (i:=10) rfl,h.fz 10,h.cell (i:=11) rfl,h.fz 11,h.cell (i:=12) rfl,h.fz 12,h.cell (i:=13) rfl,h.fz 13⟩
instance:bc UInt8 where
 size:=1
 pos:=by omega
 rd _ n cs F:=cs = [.int .u8 (n.toNat:Int)]∧F = []
 len h:=by rw [h.1];rfl
 one h:=by rw [h.1];intro u hu;simp at hu;subst hu;rfl
 lt h:=by rw [h.2];intro b X;cases X
 frame h _ _:=h
theorem Zf {P:Program} {t:TypeId} (ht:P.underlying t = some (.int .u8)):qX P t UInt8:=by
 intro H enc w base fa spare held cs d h;obtain ⟨n,rfl,_,hw⟩:=DataW.trod_int ht h;have h2:0≤n∧n≤255:=by
  have:=hw;simp [Lit.wf,IntKind.min,IntKind.max,IntKind.signed,IntKind.bits] at this;exact this
 refine ⟨UInt8.ofNat n.toNat,[],?_,rfl⟩;have e:((UInt8.ofNat n.toNat).toNat:Int) = n:=by
  have h3:(UInt8.ofNat n.toNat).toNat = n.toNat % 256:=by simp
  rw [h3];omega
 rw [e]
def bM (w:World) (c:Nat) (A:Option Addr) (n aq:Nat):Prop :=
 (∃(i h:Int) (t:TypeId),w.heap[c]? = some (.cells #[.slice A n aq,.int .i64 i,.int .i64 h] t (0,0))∧(0≤i∧i≤n)∧br h) ∧
 (∀k,k < n→∃(g o:Nat) (v:Int),A = some ⟨g,o,none⟩∧g < c∧w.cell? ⟨g,o+k,none⟩ = some (.int .u8 v)∧0≤v∧v≤255)∧(n:Int)≤1048576
section
variable {w w':World} {c:Nat} {A:Option Addr} {n aq:Nat}
theorem bM.lt (h:bM w c A n aq):c < w.heap.size:=by
 obtain ⟨⟨i,x,t,h,_⟩,_⟩:=h;rcases Nat.lt_or_ge c w.heap.size with ax | nP
 ·exact ax
 ·rw [Array.getElem?_eq_none nP] at h;cases h
theorem bM.ext (h:bM w c A n aq) (X:Below w.heap.size w w'):bM w' c A n aq:=by
 have ax:=h.lt;obtain ⟨⟨i,x,t,h1,h2⟩,h3,h4⟩:=h;refine ⟨⟨i,x,t,(X.block c ax).trans h1,h2⟩,fun k hk=>?_,h4⟩;obtain ⟨g,o,v,e,hg,hc,hv⟩:=h3 k hk;exact ⟨g,o,v,e,hg,(World.cell?_of_block (X.block g J)).trans hc,hv⟩
theorem bM.drew (h:bM w c A n aq):bM w.drew c A n aq:=h.ext (aA (aj _))
theorem bM.bj (h:bM w c A n aq) {b:Nat} (X:c < b) (i:Nat) (u:Value):bM (w.setCell ⟨b,i,none⟩ u) c A n aq:=by
 obtain ⟨⟨j,x,t,h1,h2⟩,h3,h4⟩:=h;refine ⟨⟨j,x,t,(Below.heap_setCell _ _ _ _ bA).trans h1,h2⟩,fun k hk=>?_,h4⟩;exact xF
theorem bM.FO (h:bM w c A n aq) {i:Int} (hi:0≤i∧i≤n):bM (w.setCell ⟨c,1,none⟩ (.int .i64 i)) c A n aq:=by
 obtain ⟨⟨j,x,t,h1,h2⟩,h3,h4⟩:=h;refine ⟨⟨i,x,t,by simp [World.setCell,Array.getElem?_modify,h1],hi,h2.2⟩,fun k hk=>?_,h4⟩;exact xF
theorem bM.number (h:bM w c A n aq) {x:Int} (hx:br x):bM (w.setCell ⟨c,2,none⟩ (.int .i64 x)) c A n aq:=by
 obtain ⟨⟨j,y,t,h1,h2⟩,h3,h4⟩:=h;refine ⟨⟨j,x,t,by simp [World.setCell,Array.getElem?_modify,h1],h2.1,hx⟩,fun k hk=>?_,h4⟩;exact xF
theorem bM.cells (h:bM w c A n aq):∃i x:Int,(0≤i∧i≤n)∧br x∧w.cell? ⟨c,0,none⟩ = some (.slice A n aq)∧w.cell? ⟨c,1,none⟩ = some (.int .i64 i)∧w.cell? ⟨c,2,none⟩ = some (.int .i64 x)∧∀k,w.frozen? ⟨c,k,none⟩ = false:=by
 obtain ⟨⟨i,x,t,h,h2⟩,_⟩:=h;refine ⟨i,x,h2.1,h2.2,?_,?_,?_,fun k=>by simp [World.frozen?,h]⟩
 ·rw [cell_of_row w c 0 _ t (0,0) h];rfl
 ·rw [cell_of_row w c 1 _ t (0,0) h];rfl
 ·rw [cell_of_row w c 2 _ t (0,0) h];rfl
theorem bM.byte (h:bM w c A n aq) {k:Nat} (hk:k < n):∃(g o:Nat) (v:Int),A = some ⟨g,o,none⟩∧g < c∧w.cell? ⟨g,o+k,none⟩ = some (.int .u8 v)∧0≤v∧v≤255:=h.2.1 k hk
theorem bM.small (h:bM w c A n aq):(n:Int)≤1048576:=h.2.2
end
structure cQ {α:Type} [bc α] (w:World) (B:Nat) (x:α) (cs:List Value) (F:List Nat):Prop where
 rd:Go.Proofs.YtajbbmembionpaaGreat.bc.rd w x cs F
 base:∀b∈F,B≤b
section
variable {α β:Type} [bc α] [bc β] {w w':World} {B:Nat} {x:α} {y:β} {cs c1 c2:List Value} {F F1 F2:List Nat}
theorem am.K1 (h:am w B x cs F):cQ w B x cs F:=⟨h.rd,h.base⟩
theorem cQ.bs (h:cQ w B x cs F) (hk:∀b∈F,w'.heap[b]? = w.heap[b]?) (hz:w.heap.size≤w'.heap.size):cQ w' B x cs F:=⟨bc.frame h.rd hk hz,h.base⟩
theorem cQ.lt (h:cQ w B x cs F):∀b∈F,b < w.heap.size:=bc.lt h.rd
theorem cQ.ext (h:cQ w B x cs F) (X:Below w.heap.size w w'):cQ w' B x cs F:=h.bs (fun b hm=>X.block b (h.lt b hm)) X.size
theorem cQ.drawn {c:Nat} (h:cQ w B x cs F) (hu:nN [c] w w') (hc:c < B):cQ w' B x cs F :=
 h.bs (fun b hm=>hu.block b (h.lt b hm) (fun lz=>by have:=h.base b hm;rw [List.mem_singleton] at lz;omega)) hu.size
theorem cQ.mono (h:cQ w B x cs F) {B':Nat} (hB:B'≤B):cQ w B' x cs F:=⟨h.rd,fun b hm=>Nat.le_trans hB (h.base b hm)⟩
theorem cQ.bt (h:cQ w B x cs F) {p:Addr} (Z:∀b∈F,b≠p.block) (u:Value):cQ (w.setCell p u) B x cs F :=
 h.bs (fun b hm=>Below.heap_setCell _ _ _ _ (Z b hm)) eC
theorem cQ.GS {B2:Nat} (h:cQ w B x cs F) (X:Below B2 w w') (hF:∀b∈F,b < B2):cQ w' B x cs F:=h.bs (fun b hm=>X.block b (hF b hm)) X.size
theorem cQ.cK (h:Go.Proofs.YtajbbmembionpaaGreat.bc.rd w x cs []):cQ w B x cs []:=⟨h,fun b X=>by cases X⟩
theorem cQ.ez (h1:cQ w B x c1 F1) (h2:cQ w B y c2 F2):cQ w B (x,y) (c1++c2) (F1++F2) :=
 ⟨⟨c1,c2,F1,F2,rfl,rfl,h1.rd,h2.rd⟩,fun b X=>by
   rcases List.mem_append.1 X with X | X
   ·exact h1.base b X
   ·exact h2.base b X⟩
theorem cQ.cons (h1:Go.Proofs.YtajbbmembionpaaGreat.bc.rd w x c1 []) (h2:cQ w B y c2 F2):cQ w B (x,y) (c1++c2) F2:=by
 have:=(cQ.cK (B:=B) h1).ez h2;simpa using this
theorem cQ.up {γ:Type} {z:γ} (g:γ→β) (h:cQ w B (g z) cs F):@cQ γ (bc.mz g) w B z cs F:=@cQ.mk γ (bc.mz g) w B z cs F h.rd h.base
end
theorem cQ.mD {w:World} {B:Nat} {nm:ByteArray} {ls:List ap} {a m r:Int} {ns:List aM} {ts:List bH} {Al An At:Option Addr} {cl cn ct:Nat} {Gl Gn Gt:List Nat} (h1:cQ w B ls [.slice Al ls.length cl] Gl) (h2:cQ w B ns [.slice An ns.length cn] Gn) (h3:cQ w B ts [.slice At ts.length ct] Gt) (Z:nm.size≤maxLen) (ha:br a) (hm:br m) (hr:br r) :
 cQ w B (⟨nm,ls,a,m,r,ns,ts⟩:nI) [.string nm,.slice Al ls.length cl,.int .i64 a,.int .i64 m,.int .i64 r,.slice An ns.length cn,.slice At ts.length ct] (Gl++(Gn++Gt)):=by
 refine cQ.up (fun x:nI=>(x.name,x.labels,x.az,x.mem,x.aw,x.ai,x.ae)) ?_;refine cQ.cons (c1:=[.string nm]) (dE _ nm (by unfold maxLen at Z;omega)) ?_;exact h1.ez (cQ.cons (c1:=[.int .i64 a]) (jL _ a ha) (cQ.cons (c1:=[.int .i64 m]) (jL _ m hm) (cQ.cons (c1:=[.int .i64 r]) (jL _ r hr) (h2.ez h3))))
theorem cQ.mi {w:World} {B:Nat} {x:nI} {cs:List Value} {F:List Nat} (h:cQ w B x cs F):∃Al cl Gl An cn Gn At ct Gt,cs = [.string x.name,.slice Al x.labels.length cl,.int .i64 x.az,.int .i64 x.mem,.int .i64 x.aw,.slice An x.ai.length cn,.slice At x.ae.length ct]∧cQ w B x.labels [.slice Al x.labels.length cl] Gl∧cQ w B x.ai [.slice An x.ai.length cn] Gn∧cQ w B x.ae [.slice At x.ae.length ct] Gt∧x.name.size≤maxLen∧br x.az∧br x.mem∧br x.aw:=by
 obtain ⟨Al,cl,Gl,An,cn,Gn,At,ct,Gt,aE,hF,hname,hl,vg,cB,BJ,Z,ht⟩:=dL h.rd;have X:=h.base;rw [hF] at X;refine ⟨Al,cl,Gl,An,cn,Gn,At,ct,Gt,aE,⟨hl,fun b hm=>X b ?_⟩,⟨Z,fun b hm=>X b ?_⟩,⟨ht,fun b hm=>X b ?_⟩,hname,vg,cB,BJ⟩;all_goals simp [hm]
end Go.Proofs.YtajbbmembionpaaGreat
