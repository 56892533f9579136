/- Blocks with given cells. No condition. -/
import Derived.Test.YtajbbmembionpaaGreatMark
import Derived.Deep.Upon
namespace Go.Proofs.YtajbbmembionpaaGreat
open Go.ChangeShapes Go.WideShapes Go.ChangeAt Go.RowKit
set_option linter.unusedVariables false
set_option linter.unusedSimpArgs false
def oG (w:World) (g:Nat) (cs:List Value):Prop:=∃t,w.heap[g]? = some (.cells cs.toArray t (0,0))
section
variable {w w':World} {g:Nat} {cs:List Value}
theorem oG.lt (h:oG w g cs):g < w.heap.size:=by
 obtain ⟨t,h⟩:=h;rcases Nat.lt_or_ge g w.heap.size with av | nB
 ·exact av
 ·rw [Array.getElem?_eq_none nB] at h;cases h
theorem oG.cell (h:oG w g cs) {i:Nat} {u:Value} (hi:cs[i]? = some u):w.cell? ⟨g,i,none⟩ = some u:=by
 obtain ⟨t,h⟩:=h;rw [cell_of_row w g i _ t (0,0) h];simpa using hi
theorem oG.fz (h:oG w g cs) (i:Nat):w.frozen? ⟨g,i,none⟩ = false:=by obtain ⟨t,h⟩:=h;simp [World.frozen?,h]
theorem oG.bm (h:oG w g cs) (hk:w'.heap[g]? = w.heap[g]?):oG w' g cs:=by obtain ⟨t,h⟩:=h;exact ⟨t,hk.trans h⟩
theorem oG.put (h:oG w g cs) (i:Nat) (u:Value):oG (w.setCell ⟨g,i,none⟩ u) g (cs.set i u):=by
 obtain ⟨t,h⟩:=h;exact ⟨t,by simp [World.setCell,Array.getElem?_modify,h]⟩
theorem oG.bj (h:oG w g cs) {c:Nat} (hc:c≠g) (i:Nat) (u:Value):oG (w.setCell ⟨c,i,none⟩ u) g cs:=h.bm (Below.heap_setCell _ _ _ _ bC)
theorem oG.new (w:World) (cs:List Value) (t:TypeId):oG (w.alloc (.cells cs.toArray t)) w.heap.size cs:=⟨t,heap_alloc_new w _⟩
theorem oG.ext (h:oG w g cs) (U:Below w.heap.size w w'):oG w' g cs:=h.bm (U.block g h.lt)
theorem oG.bS {b:Nat} (h:oG w g cs) (hu:nN [b] w w') (hg:g≠b):oG w' g cs:=h.bm (hu.block g h.lt (by simpa using hg))
end
theorem ZQ {w:World} {g:Nat} {a0 a1 a2:Value} {r:List Value} (h:oG w g (a0::a1::a2::r)):w.cell? ⟨g,0,none⟩ = some a0∧w.cell? ⟨g,1,none⟩ = some a1∧w.cell? ⟨g,2,none⟩ = some a2:=⟨h.cell (i:=0) rfl,h.cell (i:=1) rfl,h.cell (i:=2) rfl⟩
theorem dy {w:World} {g:Nat} {a0 a1 a2 a3 a4 a5:Value} {r:List Value} (h:oG w g (a0::a1::a2::a3::a4::a5::r)):w.cell? ⟨g,0,none⟩ = some a0∧w.cell? ⟨g,1,none⟩ = some a1∧w.cell? ⟨g,2,none⟩ = some a2∧w.cell? ⟨g,3,none⟩ = some a3∧w.cell? ⟨g,4,none⟩ = some a4∧w.cell? ⟨g,5,none⟩ = some a5:=⟨h.cell (i:=0) rfl,h.cell (i:=1) rfl,h.cell (i:=2) rfl,h.cell (i:=3) rfl,h.cell (i:=4) rfl,h.cell (i:=5) rfl⟩
theorem pC {w:World} {g:Nat} {a0 a1 a2 a3 a4 a5 a6:Value} {r:List Value} (h:oG w g (a0::a1::a2::a3::a4::a5::a6::r)):w.cell? ⟨g,0,none⟩ = some a0∧w.cell? ⟨g,1,none⟩ = some a1∧w.cell? ⟨g,2,none⟩ = some a2∧w.cell? ⟨g,3,none⟩ = some a3∧w.cell? ⟨g,4,none⟩ = some a4∧w.cell? ⟨g,5,none⟩ = some a5∧w.cell? ⟨g,6,none⟩ = some a6:=⟨h.cell (i:=0) rfl,h.cell (i:=1) rfl,h.cell (i:=2) rfl,h.cell (i:=3) rfl,h.cell (i:=4) rfl,h.cell (i:=5) rfl,h.cell (i:=6) rfl⟩
theorem ZR {w:World} {g:Nat} {a0 a1 a2 a3 a4 a5 a6 a7 a8:Value} {r:List Value} (h:oG w g (a0::a1::a2::a3::a4::a5::a6::a7::a8::r)):w.cell? ⟨g,0,none⟩ = some a0∧w.cell? ⟨g,1,none⟩ = some a1∧w.cell? ⟨g,2,none⟩ = some a2∧w.cell? ⟨g,3,none⟩ = some a3∧w.cell? ⟨g,4,none⟩ = some a4∧w.cell? ⟨g,5,none⟩ = some a5∧w.cell? ⟨g,6,none⟩ = some a6∧w.cell? ⟨g,7,none⟩ = some a7∧w.cell? ⟨g,8,none⟩ = some a8:=⟨h.cell (i:=0) rfl,h.cell (i:=1) rfl,h.cell (i:=2) rfl,h.cell (i:=3) rfl,h.cell (i:=4) rfl,h.cell (i:=5) rfl,h.cell (i:=6) rfl,h.cell (i:=7) rfl,h.cell (i:=8) rfl⟩
theorem qe {w:World} {g:Nat} {a0 a1 a2:Value} {r:List Value} (h:oG w g (a0::a1::a2::r)):w.cell? ⟨g,0,none⟩ = some a0∧w.frozen? ⟨g,0,none⟩ = false∧w.cell? ⟨g,1,none⟩ = some a1∧w.frozen? ⟨g,1,none⟩ = false∧w.cell? ⟨g,2,none⟩ = some a2∧w.frozen? ⟨g,2,none⟩ = false:=⟨h.cell (i:=0) rfl,h.fz 0,h.cell (i:=1) rfl,h.fz 1,h.cell (i:=2) rfl,h.fz 2⟩
theorem nQ {w:World} {g:Nat} {a0 a1 a2 a3:Value} {r:List Value} (h:oG w g (a0::a1::a2::a3::r)):w.cell? ⟨g,0,none⟩ = some a0∧w.frozen? ⟨g,0,none⟩ = false∧w.cell? ⟨g,1,none⟩ = some a1∧w.frozen? ⟨g,1,none⟩ = false∧w.cell? ⟨g,2,none⟩ = some a2∧w.frozen? ⟨g,2,none⟩ = false∧w.cell? ⟨g,3,none⟩ = some a3∧w.frozen? ⟨g,3,none⟩ = false:=⟨h.cell (i:=0) rfl,h.fz 0,h.cell (i:=1) rfl,h.fz 1,h.cell (i:=2) rfl,h.fz 2,h.cell (i:=3) rfl,h.fz 3⟩
theorem iX {w:World} {g:Nat} {a0 a1 a2 a3 a4 a5:Value} {r:List Value} (h:oG w g (a0::a1::a2::a3::a4::a5::r)):w.cell? ⟨g,0,none⟩ = some a0∧w.frozen? ⟨g,0,none⟩ = false∧w.cell? ⟨g,1,none⟩ = some a1∧w.frozen? ⟨g,1,none⟩ = false∧w.cell? ⟨g,2,none⟩ = some a2∧w.frozen? ⟨g,2,none⟩ = false∧w.cell? ⟨g,3,none⟩ = some a3∧w.frozen? ⟨g,3,none⟩ = false∧w.cell? ⟨g,4,none⟩ = some a4∧w.frozen? ⟨g,4,none⟩ = false∧w.cell? ⟨g,5,none⟩ = some a5∧w.frozen? ⟨g,5,none⟩ = false:=⟨h.cell (i:=0) rfl,h.fz 0,h.cell (i:=1) rfl,h.fz 1,h.cell (i:=2) rfl,h.fz 2,h.cell (i:=3) rfl,h.fz 3,h.cell (i:=4) rfl,h.fz 4,h.cell (i:=5) rfl,h.fz 5⟩
theorem eI {w:World} {g:Nat} {a0 a1 a2 a3 a4 a5 a6:Value} {r:List Value} (h:oG w g (a0::a1::a2::a3::a4::a5::a6::r)):w.cell? ⟨g,0,none⟩ = some a0∧w.frozen? ⟨g,0,none⟩ = false∧w.cell? ⟨g,1,none⟩ = some a1∧w.frozen? ⟨g,1,none⟩ = false∧w.cell? ⟨g,2,none⟩ = some a2∧w.frozen? ⟨g,2,none⟩ = false∧w.cell? ⟨g,3,none⟩ = some a3∧w.frozen? ⟨g,3,none⟩ = false∧w.cell? ⟨g,4,none⟩ = some a4∧w.frozen? ⟨g,4,none⟩ = false∧w.cell? ⟨g,5,none⟩ = some a5∧w.frozen? ⟨g,5,none⟩ = false∧w.cell? ⟨g,6,none⟩ = some a6∧w.frozen? ⟨g,6,none⟩ = false:=⟨h.cell (i:=0) rfl,h.fz 0,h.cell (i:=1) rfl,h.fz 1,h.cell (i:=2) rfl,h.fz 2,h.cell (i:=3) rfl,h.fz 3,h.cell (i:=4) rfl,h.fz 4,h.cell (i:=5) rfl,h.fz 5,h.cell (i:=6) rfl,h.fz 6⟩
theorem FG {w:World} {g:Nat} {a0 a1 a2 a3 a4 a5 a6 a7 a8 a9 Sz SA a12 SF:Value} {r:List Value} (h:oG w g (a0::a1::a2::a3::a4::a5::a6::a7::a8::a9::Sz::SA::a12::SF::r)):w.cell? ⟨g,0,none⟩ = some a0∧w.frozen? ⟨g,0,none⟩ = false∧w.cell? ⟨g,1,none⟩ = some a1∧w.frozen? ⟨g,1,none⟩ = false∧w.cell? ⟨g,2,none⟩ = some a2∧w.frozen? ⟨g,2,none⟩ = false∧w.cell? ⟨g,3,none⟩ = some a3∧w.frozen? ⟨g,3,none⟩ = false∧w.cell? ⟨g,4,none⟩ = some a4∧w.frozen? ⟨g,4,none⟩ = false∧w.cell? ⟨g,5,none⟩ = some a5∧w.frozen? ⟨g,5,none⟩ = false∧w.cell? ⟨g,6,none⟩ = some a6∧w.frozen? ⟨g,6,none⟩ = false∧w.cell? ⟨g,7,none⟩ = some a7∧w.frozen? ⟨g,7,none⟩ = false∧w.cell? ⟨g,8,none⟩ = some a8∧w.frozen? ⟨g,8,none⟩ = false∧w.cell? ⟨g,9,none⟩ = some a9∧w.frozen? ⟨g,9,none⟩ = false∧w.cell? ⟨g,10,none⟩ = some Sz∧w.frozen? ⟨g,10,none⟩ = false∧w.cell? ⟨g,11,none⟩ = some SA∧w.frozen? ⟨g,11,none⟩ = false∧w.cell? ⟨g,12,none⟩ = some a12∧w.frozen? ⟨g,12,none⟩ = false∧w.cell? ⟨g,13,none⟩ = some SF∧w.frozen? ⟨g,13,none⟩ = false:=⟨h.cell (i:=0) rfl,h.fz 0,h.cell (i:=1) rfl,h.fz 1,h.cell (i:=2) rfl,h.fz 2,h.cell (i:=3) rfl,h.fz 3,h.cell (i:=4) rfl,h.fz 4,h.cell (i:=5) rfl,h.fz 5,h.cell (i:=6) rfl,h.fz 6,h.cell (i:=7) rfl,h.fz 7,h.cell (i:=8) rfl,h.fz 8,h.cell (i:=9) rfl,h.fz 9,h.cell (i:=10) rfl,h.fz 10,h.cell (i:=11) rfl,h.fz 11,h.cell (i:=12) rfl,h.fz 12,h.cell (i:=13) rfl,h.fz 13⟩
instance:bb UInt8 where
 size:=1
 pos:=by omega
 rd _ n cs F:=cs = [.int .u8 (n.toNat:Int)]∧F = []
 len h:=by rw [h.1];rfl
 one h:=by rw [h.1];intro u hu;simp at hu;subst hu;rfl
 lt h:=by rw [h.2];intro b U;cases U
 frame h _ _:=h
theorem aBV {P:Program} {t:TypeId} (ht:P.underlying t = some (.int .u8)):qB P t UInt8:=by
 intro H enc w base fi spare held cs d h;obtain ⟨n,rfl,_,hw⟩:=DataW.trod_int ht h;have h2:0≤n∧n≤255:=by
  have:=hw;simp [Lit.wf,IntKind.min,IntKind.max,IntKind.signed,IntKind.bits] at this;exact this
 refine ⟨UInt8.ofNat n.toNat,[],?_,rfl⟩;have e:((UInt8.ofNat n.toNat).toNat:Int) = n:=by
  have h3:(UInt8.ofNat n.toNat).toNat = n.toNat % 256:=by simp
  rw [h3];omega
 rw [e]
def bR (w:World) (c:Nat) (A:Option Addr) (n ar:Nat):Prop :=
 (∃(i h:Int) (t:TypeId),w.heap[c]? = some (.cells #[.slice A n ar,.int .i64 i,.int .i64 h] t (0,0))∧(0≤i∧i≤n)∧bt h) ∧
 (∀k,k < n→∃(g o:Nat) (v:Int),A = some ⟨g,o,none⟩∧g < c∧w.cell? ⟨g,o+k,none⟩ = some (.int .u8 v)∧0≤v∧v≤255)∧(n:Int)≤1048576
section
variable {w w':World} {c:Nat} {A:Option Addr} {n ar:Nat}
theorem bR.lt (h:bR w c A n ar):c < w.heap.size:=by
 obtain ⟨⟨i,x,t,h,_⟩,_⟩:=h;rcases Nat.lt_or_ge c w.heap.size with av | nB
 ·exact av
 ·rw [Array.getElem?_eq_none nB] at h;cases h
theorem bR.ext (h:bR w c A n ar) (U:Below w.heap.size w w'):bR w' c A n ar:=by
 have av:=h.lt;obtain ⟨⟨i,x,t,Z,h2⟩,h3,h4⟩:=h;refine ⟨⟨i,x,t,(U.block c av).trans Z,h2⟩,fun k hk=>?_,h4⟩;obtain ⟨g,o,v,e,hg,hc,hv⟩:=h3 k hk;exact ⟨g,o,v,e,hg,(World.cell?_of_block (U.block g J)).trans hc,hv⟩
theorem bR.drew (h:bR w c A n ar):bR w.drew c A n ar:=h.ext (aA (aj _))
theorem bR.bj (h:bR w c A n ar) {b:Nat} (U:c < b) (i:Nat) (u:Value):bR (w.setCell ⟨b,i,none⟩ u) c A n ar:=by
 obtain ⟨⟨j,x,t,Z,h2⟩,h3,h4⟩:=h;refine ⟨⟨j,x,t,(Below.heap_setCell _ _ _ _ bC).trans Z,h2⟩,fun k hk=>?_,h4⟩;exact xN
theorem bR.GV (h:bR w c A n ar) {i:Int} (hi:0≤i∧i≤n):bR (w.setCell ⟨c,1,none⟩ (.int .i64 i)) c A n ar:=by
 obtain ⟨⟨j,x,t,Z,h2⟩,h3,h4⟩:=h;refine ⟨⟨i,x,t,by simp [World.setCell,Array.getElem?_modify,Z],hi,h2.2⟩,fun k hk=>?_,h4⟩;exact xN
theorem bR.number (h:bR w c A n ar) {x:Int} (hx:bt x):bR (w.setCell ⟨c,2,none⟩ (.int .i64 x)) c A n ar:=by
 obtain ⟨⟨j,y,t,Z,h2⟩,h3,h4⟩:=h;refine ⟨⟨j,x,t,by simp [World.setCell,Array.getElem?_modify,Z],h2.1,hx⟩,fun k hk=>?_,h4⟩;exact xN
theorem bR.cells (h:bR w c A n ar):∃i x:Int,(0≤i∧i≤n)∧bt x∧w.cell? ⟨c,0,none⟩ = some (.slice A n ar)∧w.cell? ⟨c,1,none⟩ = some (.int .i64 i)∧w.cell? ⟨c,2,none⟩ = some (.int .i64 x)∧∀k,w.frozen? ⟨c,k,none⟩ = false:=by
 obtain ⟨⟨i,x,t,h,h2⟩,_⟩:=h;refine ⟨i,x,h2.1,h2.2,?_,?_,?_,fun k=>by simp [World.frozen?,h]⟩
 ·rw [cell_of_row w c 0 _ t (0,0) h];rfl
 ·rw [cell_of_row w c 1 _ t (0,0) h];rfl
 ·rw [cell_of_row w c 2 _ t (0,0) h];rfl
theorem bR.byte (h:bR w c A n ar) {k:Nat} (hk:k < n):∃(g o:Nat) (v:Int),A = some ⟨g,o,none⟩∧g < c∧w.cell? ⟨g,o+k,none⟩ = some (.int .u8 v)∧0≤v∧v≤255:=h.2.1 k hk
theorem bR.small (h:bR w c A n ar):(n:Int)≤1048576:=h.2.2
end
structure cX {α:Type} [bb α] (w:World) (B:Nat) (x:α) (cs:List Value) (F:List Nat):Prop where
 rd:Go.Proofs.YtajbbmembionpaaGreat.bb.rd w x cs F
 base:∀b∈F,B≤b
section
variable {α β:Type} [bb α] [bb β] {w w':World} {B:Nat} {x:α} {y:β} {cs c1 c2:List Value} {F F1 F2:List Nat}
theorem am.LP (h:am w B x cs F):cX w B x cs F:=⟨h.rd,h.base⟩
theorem cX.bm (h:cX w B x cs F) (hk:∀b∈F,w'.heap[b]? = w.heap[b]?) (hz:w.heap.size≤w'.heap.size):cX w' B x cs F:=⟨bb.frame h.rd hk hz,h.base⟩
theorem cX.lt (h:cX w B x cs F):∀b∈F,b < w.heap.size:=bb.lt h.rd
theorem cX.ext (h:cX w B x cs F) (U:Below w.heap.size w w'):cX w' B x cs F:=h.bm (fun b hm=>U.block b (h.lt b hm)) U.size
theorem cX.drawn {c:Nat} (h:cX w B x cs F) (hu:nN [c] w w') (hc:c < B):cX w' B x cs F :=
 h.bm (fun b hm=>hu.block b (h.lt b hm) (fun nE=>by have:=h.base b hm;rw [List.mem_singleton] at nE;omega)) hu.size
theorem cX.mono (h:cX w B x cs F) {B':Nat} (hB:B'≤B):cX w B' x cs F:=⟨h.rd,fun b hm=>Nat.le_trans hB (h.base b hm)⟩
theorem cX.bu (h:cX w B x cs F) {p:Addr} (X:∀b∈F,b≠p.block) (u:Value):cX (w.setCell p u) B x cs F :=
 h.bm (fun b hm=>Below.heap_setCell _ _ _ _ (X b hm)) ew
theorem cX.Io {B2:Nat} (h:cX w B x cs F) (U:Below B2 w w') (hF:∀b∈F,b < B2):cX w' B x cs F:=h.bm (fun b hm=>U.block b (hF b hm)) U.size
theorem cX.cQ (h:Go.Proofs.YtajbbmembionpaaGreat.bb.rd w x cs []):cX w B x cs []:=⟨h,fun b U=>by cases U⟩
theorem cX.eD (Z:cX w B x c1 F1) (h2:cX w B y c2 F2):cX w B (x,y) (c1++c2) (F1++F2) :=
 ⟨⟨c1,c2,F1,F2,rfl,rfl,Z.rd,h2.rd⟩,fun b U=>by
   rcases List.mem_append.1 U with U | U
   ·exact Z.base b U
   ·exact h2.base b U⟩
theorem cX.cons (Z:Go.Proofs.YtajbbmembionpaaGreat.bb.rd w x c1 []) (h2:cX w B y c2 F2):cX w B (x,y) (c1++c2) F2:=by
 have:=(cX.cQ (B:=B) Z).eD h2;simpa using this
theorem cX.up {γ:Type} {z:γ} (g:γ→β) (h:cX w B (g z) cs F):@cX γ (bb.mq g) w B z cs F:=@cX.mk γ (bb.mq g) w B z cs F h.rd h.base
end
theorem cX.mx {w:World} {B:Nat} {nm:ByteArray} {ls:List ao} {a m r:Int} {ns:List aL} {ts:List bH} {Al An At:Option Addr} {cl cn ct:Nat} {Gl Gn Gt:List Nat} (Z:cX w B ls [.slice Al ls.length cl] Gl) (h2:cX w B ns [.slice An ns.length cn] Gn) (h3:cX w B ts [.slice At ts.length ct] Gt) (X:nm.size≤maxLen) (ha:bt a) (hm:bt m) (hr:bt r) :
 cX w B (⟨nm,ls,a,m,r,ns,ts⟩:nI) [.string nm,.slice Al ls.length cl,.int .i64 a,.int .i64 m,.int .i64 r,.slice An ns.length cn,.slice At ts.length ct] (Gl++(Gn++Gt)):=by
 refine cX.up (fun x:nI=>(x.name,x.labels,x.az,x.mem,x.aw,x.ai,x.ae)) ?_;refine cX.cons (c1:=[.string nm]) (ed _ nm (by unfold maxLen at X;omega)) ?_;exact Z.eD (cX.cons (c1:=[.int .i64 a]) (jL _ a ha) (cX.cons (c1:=[.int .i64 m]) (jL _ m hm) (cX.cons (c1:=[.int .i64 r]) (jL _ r hr) (h2.eD h3))))
theorem cX.l8 {w:World} {B:Nat} {x:nI} {cs:List Value} {F:List Nat} (h:cX w B x cs F):∃Al cl Gl An cn Gn At ct Gt,cs = [.string x.name,.slice Al x.labels.length cl,.int .i64 x.az,.int .i64 x.mem,.int .i64 x.aw,.slice An x.ai.length cn,.slice At x.ae.length ct]∧cX w B x.labels [.slice Al x.labels.length cl] Gl∧cX w B x.ai [.slice An x.ai.length cn] Gn∧cX w B x.ae [.slice At x.ae.length ct] Gt∧x.name.size≤maxLen∧bt x.az∧bt x.mem∧bt x.aw:=by
 obtain ⟨Al,cl,Gl,An,cn,Gn,At,ct,Gt,aD,hF,hname,hl,vg,cG,BJ,X,ht⟩:=dL h.rd;have U:=h.base;rw [hF] at U;refine ⟨Al,cl,Gl,An,cn,Gn,At,ct,Gt,aD,⟨hl,fun b hm=>U b ?_⟩,⟨X,fun b hm=>U b ?_⟩,⟨ht,fun b hm=>U b ?_⟩,hname,vg,cG,BJ⟩;all_goals simp [hm]
theorem mY {w:World} {B e size n:Nat} {v:Value} {xs:List Value} (h:w.ownsRow B e size v n xs):∃A c,v = .slice A n c:=by
 rcases h.2 with ⟨rfl,X⟩ | ⟨g,ar,dT,rfl,_⟩
 ·subst X;exact ⟨none,0,rfl⟩
 ·exact ⟨_,_,rfl⟩
theorem EJ {w:World} {B e size n c i:Nat} {v u:Value} {xs:List Value} (h:w.ownsRow B e size v n xs) (hc:∀g,v.ownBlock = some g→g≠c):(w.setCell ⟨c,i,none⟩ u).ownsRow B e size v n xs :=
 h.kept (row:=some c) ⟨rfl,rfl,rfl,by simp [World.setCell],fun k hk bX=>Below.heap_setCell _ _ _ _ (by intro e;apply bX;rw [e])⟩ (by
   by_cases hv:v.ownBlock = some c
   ·exact absurd rfl (hc c hv)
   ·exact .inr hv)
section
variable {α:Type} [bb α]
theorem aY.pr {w w':World} {B B5 e size n:Nat} {v v':Value} {xs:List α} {ds us cs:List Value} {F G:List Nat} {x:α} (row:w.ownsRow B e size v n us) (cA:aY w B xs ds F) (bX:∀g,v.ownBlock = some g→g∉F)
 (hx:am w B5 x cs G) (h5:B≤B5) (eg:∀g,v.ownBlock = some g→g < B5) (hF:∀y∈F,y < B5) (hg:w.grownBy w' v.ownBlock) (dt:v'.ownBlock = v.ownBlock∨v'.ownBlock = some (w.heap.size+1)) :
 aY w' B (xs++[x]) (ds++cs) (F++G)∧∀g,v'.ownBlock = some g→g∉F++G:=by
 have Z:=cA.push hx h5 hF;have pU:∀g,v.ownBlock = some g→g∉F++G:=fun g hv hm=>by
  rcases List.mem_append.1 hm with hm | hm
  ·exact bX g hv hm
  ·have:=hx.base g hm;have:=eg g hv;omega
 refine ⟨Z.bm (fun y hy=>hg.block y (Z.lt y hy) (fun hv=>pU y hv.symm hy)) hg.size,fun g hv hm=>?_⟩;rcases dt with dt | dt
 ·exact pU g (dt.symm.trans hv) hm
 ·have h2:=Z.lt g hm;rw [dt] at hv;injection hv with hv;omega
end
theorem Qb {P:Program} {t e:TypeId} {z:Value} {size bytes:Nat} (hE:DL P t e z size bytes) {o:Oper} {a:Act} {K:Act→World→Prop} {Q:Exit→Act→World→Prop} (s x:Operand)
 (ho:o.op = .call { callee:=.builtin .append,args:=#[s,x],argTypes:=#[t,t] })
 (w:World) (base:Nat) (v:Value) (n:Nat) (xs:List Value) (bi:w.ownsRow base e size v n xs) (hs:a.eval s = v)
 (cs:List Value) (hx:a.eval x = .slice (some ⟨w.heap.size,0,none⟩) 1 1) (hl:cs.length = size) (Z:∀u∈cs,u.oneCell' = true)
 (X:n≤2097152) (lU:bytes≤4096) (db:base≤w.heap.size)
 (h:∀v' w',w'.ownsRow base e size v' (n+1) (xs++cs)→w.grownBy w' v.ownBlock→w.heap.size+1≤w'.heap.size→(v'.ownBlock = v.ownBlock∨v'.ownBlock = some (w.heap.size+1))→K (a.put o.dst v') w'):o.wp P a (w.alloc (.cells cs.toArray e)) K Q:=by
 obtain ⟨ht,hi0,j6,fX⟩:=hE;obtain ⟨i,hi,hz,hsize,U⟩:=info_parts hi0;have iP:(n+1) * bytes≤2097153 * 4096:=Nat.mul_le_mul J lU;have ja:∀j u,cs[j]? = some u→(w.alloc (.cells cs.toArray e)).cell? ((⟨w.heap.size,0,none⟩:Addr).add j) = some u:=by exact xy
 obtain ⟨v',w',hr,h2,h3,h4,h5⟩:=run_append_own_at (P:=P) (w.alloc (.cells cs.toArray e)) base t o.type e i z size bytes ht hi hz hsize U j6 fX v n xs (bi.alloc _) ⟨w.heap.size,0,none⟩ 1 1 cs J ja Z j4 J (by simp;omega);unfold Oper.wp execOp;simp only [ho,resolve,invoke,builtin,Sem.run_bind,Sem.run_pure,Result.andThen_ok,List.map_toArray,List.map_cons,List.map_nil,hs,hx,hr];refine h v' w' h2 ⟨h3.os,h3.tape,h3.output,Nat.le_trans S' h3.size,fun k hk bX=>?_⟩ (by have:=h3.size;simpa using this) (by simpa using h5);rw [h3.block k (by simp;omega) bX];exact Below.heap_alloc _ _ _ hk
theorem rW {α:Type} [bb α] {P:Program} {t e:TypeId} {z:Value} {size bytes:Nat} (hE:DL P t e z size bytes) (hd:bb.size α = size) {ops:Array Oper} {rest:List Oper} {o:Oper} {a:Act} {Q:Exit→Act→World→Prop} (rR:o.guard = none) (s x:Operand)
 (ho:o.op = .call { callee:=.builtin .append,args:=#[s,x],argTypes:=#[t,t] })
 (w:World) (base:Nat) (v:Value) (n:Nat) (xs:List Value) (bi:w.ownsRow base e size v n xs) (hs:a.eval s = v)
 (ys:List α) (A:Option Addr) (c:Nat) (F:List Nat) (j0:Sl w ys A c F) (hx:a.eval x = .slice A ys.length c)
 (X:n+ys.length≤2097152) (lU:bytes≤4096) (db:base≤w.heap.size)
 (h:∀v' w' ds G,jo w ys ds G→(∀b∈G,b∈F)→w'.ownsRow base e size v' (n+ys.length) (xs++ds)→w.grownBy w' v.ownBlock→(v'.ownBlock = v.ownBlock∨v'.ownBlock = some w.heap.size)→wpList P ops Q rest (a.put o.dst v') w'):wpList P ops Q (o :: rest) a w:=by
 subst hd;obtain ⟨ht,hi0,j6,fX⟩:=hE;obtain ⟨i,hi,hz,hsize,U⟩:=info_parts hi0;have iP:(n+ys.length) * bytes≤2097152 * 4096:=Nat.mul_le_mul X lU;obtain ⟨A',c',G,ds,e0,Z,h2,hc,h0⟩:=j0;simp only [List.cons.injEq,Value.slice.injEq,and_true,true_and] at e0;obtain ⟨rfl,rfl⟩:=e0;have uL:∀(ad:Addr),A = some ad→(∀j u,ds[j]? = some u→w.cell? (ad.add j) = some u)→wpList P ops Q (o :: rest) a w:=by
  intro ad hA bJ;subst hA;have hG:∀b∈G,b∈F:=by
   exact Ek
  exact wpList_append_own_at w rR s x t ho base e i z (bb.size α) bytes ht hi hz hsize U j6 fX v n xs hs bi ad ys.length c ds hx hc.len bJ hc.one j4 J db (fun v' w' lV hg _ dt=>h v' w' ds G hc hG lV hg dt)
 rcases h0 with ⟨rfl,rfl⟩ | ⟨b,o',hA,rfl,U,bJ⟩
 ·obtain ⟨rfl,rfl⟩:=hc;cases A with
  | some ad=>exact uL ad rfl (fun j u hu=>by simp at hu)
  | none =>
    have FJ:∀(A2:Option Addr) (ar:Nat),v = .slice A2 n ar→n≤ar→wpList P ops Q (o :: rest) a w:=by intro A2 ar hv gL;refine wpList_plain rR fun K hK=>?_;have hr:=run_append_nothing (P:=P) w t t o.type e i ht hi A2 n ar gL (.slice none 0 c) (Src.ofNil w ht c);unfold Oper.wp execOp;simp only [ho,resolve,invoke,builtin,Sem.run_bind,Sem.run_pure,Result.andThen_ok,List.map_toArray,List.map_cons,List.map_nil,hs,hv,hx,List.length_nil,hr];refine hK _ _ ?_;subst hv;exact h _ w [] [] ⟨rfl,rfl⟩ (fun b U=>U) (by simpa using bi) ⟨rfl,rfl,rfl,Nat.le_refl _,fun _ _ _=>rfl⟩ (.inl rfl)
    rcases bi.2 with ⟨hv,rU⟩ | ⟨g,ar,dT,hv,_,_,gL,_⟩
    ·exact FJ none 0 (by rw [hv,rU]) J
    ·exact FJ _ ar hv gL
 ·refine uL _ hA fun j u hu=>?_;exact Ev
section
variable {α:Type} [bb α] {w:World}
theorem wA (hf:∀{w:World} {x:α} {cs:List Value} {F:List Nat},rd w x cs F→F = []):∀{xs:List α} {ds:List Value} {F:List Nat},jo w xs ds F→F = []
 | [],_,_,h=>h.2
 | x :: xs,_,_,⟨c1,c2,F1,F2,_,rfl,Z,h2⟩=>by rw [hf Z,wA hf h2];rfl
theorem am.de {B:Nat} {e:TypeId} {v:Value} {xs:List α} {ds:List Value} {F:List Nat} (hf:∀{w:World} {x:α} {cs:List Value} {F:List Nat},Go.Proofs.YtajbbmembionpaaGreat.bb.rd w x cs F→F = []) (h0:w.ownsRow B e (bb.size α) v xs.length ds) (h:jo w xs ds F) :
 ∃A c G,v = .slice A xs.length c∧am w B xs [.slice A xs.length c] G:=by
 obtain rfl:=wA hf h;exact am.oJ h0 ⟨h,List.nodup_nil,(fun b U=>by cases U),(fun b U=>by cases U)⟩ (fun g _ hm=>by cases hm)
end
theorem dc.oJ {w:World} {B e size n:Nat} {v:Value} {ds:List Value} (h:w.ownsRow B e size v n ds):(v = .slice none 0 0∧n = 0)∨∃g ar N,v = .slice (some ⟨g,0,none⟩) n ar∧B≤g∧dc w g e N ds∧n≤ar∧ar≤maxLen:=by
 rcases h with ⟨hl,h | ⟨g,ar,dT,rfl,U,hh,gL,hm,cA,ht⟩⟩
 ·exact .inl h
 ·refine .inr ⟨g,ar,dT.size,rfl,U,⟨dT,hh,rfl,?_,fun j u hu=>?_⟩,gL,hm⟩
  ·rw [hl,cA];exact Nat.mul_le_mul_right _ gL
  ·exact xm
theorem dc.set {w:World} {g:Nat} {t:TypeId} {N:Nat} {ds:List Value} (h:dc w g t N ds) {i:Nat} (hi:i < ds.length) (u:Value):dc (w.setCell ⟨g,i,none⟩ u) g t N (ds.set i u):=by
 obtain ⟨cs,h,rfl,hl,hc⟩:=h;refine ⟨cs.setIfInBounds i u,?_,S',by simpa using hl,fun j v hv=>?_⟩
 ·simp [World.setCell,Array.getElem?_modify,h]
 ·by_cases hj:i = j
  ·subst hj;rw [List.getElem?_set_self hi] at hv;cases hv
   rw [Array.getElem?_setIfInBounds_self_of_lt J]
  ·rw [List.getElem?_set_ne hj] at hv;rw [Array.getElem?_setIfInBounds_ne hj];exact hc j v hv
theorem dc.kv {w:World} {g:Nat} {t:TypeId} {N:Nat} {ds:List Value} (h:dc w g t N ds) {j:Nat} {u:Value} (hj:ds[j]? = some u):w.cell? ⟨g,j,none⟩ = some u:=by have:=h.cells j u hj;simpa using this
structure ff (α:Type) where
 l:List α
 t:TypeId
instance {α:Type} [bb α]:bb (ff α) where
 size:=1
 pos:=by omega
 rd w x cs F:=rd w x.l cs F∧((x.l = []∧cs = [.slice none 0 0])∨∃g c dT G,x.l≠[]∧cs = [.slice (some ⟨g,0,none⟩) x.l.length c]∧F = g :: G∧w.heap[g]? = some (.cells dT x.t (0,0))∧dT.size = c * bb.size α)
 len h:=bb.len h.1
 one h:=bb.one h.1
 lt h:=bb.lt h.1
 frame h hk hz:=⟨bb.frame h.1 hk hz,by
  rcases h.2 with h2 | ⟨g,c,dT,G,h0,Z,h2,h3,h4⟩
  ·exact .inl h2
  ·exact .inr ⟨g,c,dT,G,h0,Z,h2,(hk g (by rw [h2];exact List.mem_cons_self ..)).trans h3,h4⟩⟩
section
variable {α:Type} [bb α] {w:World} {B:Nat} {xs:List α} {ds:List Value} {F:List Nat}
theorem am.list {cs:List Value} {t:TypeId} (h:am w B (ff.mk xs t) cs F):am w B xs cs F:=⟨h.rd.1,h.nodup,h.base,h.plain⟩
theorem am.SI {e:TypeId} {v:Value} (h0:w.ownsRow B e (bb.size α) v xs.length ds) (h:aY w B xs ds F) (bX:∀g,v.ownBlock = some g→g∉F) (hv:xs.length = 0→v = .slice none 0 0):∃A c G,v = .slice A xs.length c∧am w B (ff.mk xs e) [.slice A xs.length c] G:=by
 obtain ⟨A,c,G,hA,hO⟩:=am.oJ h0 h bX;refine ⟨A,c,G,hA,⟨⟨hO.rd,?_⟩,hO.nodup,hO.base,hO.plain⟩⟩;by_cases hx:xs = []
 ·left;have:=hv (by rw [hx];rfl);rw [this] at hA;exact ⟨hx,by rw [hA]⟩
 ·right;rcases h0.2 with ⟨_,X⟩ | ⟨g,ar,dT,Z,h2,h3,h4,h5,h6,h7⟩
  ·exact absurd (List.eq_nil_of_length_eq_zero X) hx
  ·rw [hA] at Z;simp only [Value.slice.injEq,true_and] at Z;obtain ⟨rfl,rfl⟩:=Z;obtain ⟨A',c',G',ds',e0,_,_,_,h8⟩:=hO.rd;simp only [List.cons.injEq,Value.slice.injEq,and_true,true_and] at e0;obtain ⟨rfl,rfl⟩:=e0;rcases h8 with ⟨h9,_⟩ | ⟨b,o,U,rfl,_,_⟩
   ·exact absurd h9 hx
   ·simp only [Option.some.injEq,Addr.mk.injEq,and_true] at U;obtain ⟨rfl,rfl⟩:=U;exact ⟨g,c,dT,G',hx,rfl,rfl,h3,h6⟩
theorem am.nS {t:TypeId} {A:Option Addr} {c:Nat} (h:am w B (ff.mk xs t) [.slice A xs.length c] F):∃ds G,w.ownsRow B t (bb.size α) (.slice A xs.length c) xs.length ds∧aY w B xs ds G∧(∀g,(Value.slice A xs.length c).ownBlock = some g→g∉G)∧(∀b∈G,b∈F):=by
 obtain ⟨⟨A',c',G,ds,e0,hl,hm,hc,h0⟩,h2⟩:=h.rd;simp only [List.cons.injEq,Value.slice.injEq,and_true,true_and] at e0;obtain ⟨rfl,rfl⟩:=e0;rcases h2 with ⟨hx,he⟩ | ⟨g,c',dT,G',hx0,he,hF,hg,hs⟩
 ·simp only at hx;subst hx;simp only [List.length_nil,List.cons.injEq,Value.slice.injEq,and_true,true_and] at he;obtain ⟨rfl,rfl⟩:=he;exact ⟨[],[],⟨S',.inl ⟨rfl,rfl⟩⟩,aY.nil w B,(fun g hg=>by cases hg),(fun b U=>by cases U)⟩
 ·simp only [List.cons.injEq,Value.slice.injEq,and_true,true_and] at he;obtain ⟨rfl,rfl⟩:=he;rcases h0 with ⟨hx,qp⟩ | ⟨b,o,U,lX,av,bJ⟩
  ·rw [qp] at hF;cases hF
  ·simp only [Option.some.injEq,Addr.mk.injEq,and_true] at U;obtain ⟨rfl,rfl⟩:=U;subst lX;have X:=List.nodup_cons.1 h.nodup;have gg:ds.length = xs.length * bb.size α:=hc.len;refine ⟨ds,G,⟨gg,.inr ⟨g,c,dT,rfl,h.base g (List.mem_cons_self ..),hg,hl,hm,hs,?_⟩⟩,⟨hc,X.2,fun b U=>h.base b (List.mem_cons_of_mem _ U),fun b U=>h.plain b (List.mem_cons_of_mem _ U)⟩,(fun q hq=>by simp only [Value.ownBlock,Option.some.injEq] at hq;subst hq;exact X.1),fun b U=>List.mem_cons_of_mem _ U⟩;apply List.ext_getElem?;intro j;rw [List.getElem?_take];by_cases hj:j < xs.length * bb.size α
   ·rw [if_pos hj];have hd:ds[j]? = some ds[j]:=List.getElem?_eq_getElem J;have:=bJ j _ hd;rw [Nat.zero_add,cell_of_row w g j dT t (0,0) hg] at this;rw [hd,← this];simp
   ·rw [if_neg hj,List.getElem?_eq_none J]
theorem am.FK {t:TypeId} {v:Value} {G:List Nat} (h:am w B xs [v] F) (hr:Go.Proofs.YtajbbmembionpaaGreat.bb.rd w (ff.mk xs t) [v] G):am w B (ff.mk xs t) [v] F:=by
 refine ⟨⟨h.rd,?_⟩,h.nodup,h.base,h.plain⟩;rcases hr.2 with Z | ⟨g,c,dT,G',h0,Z,h2,h3,h4⟩
 ·exact .inl Z
 ·refine .inr ⟨g,c,dT,?_⟩;obtain ⟨A',c',G2,ds,e0,hl,hm,hc,h5⟩:=h.rd;rcases h5 with ⟨hx,_⟩ | ⟨b,o,U,hF,_,_⟩
  ·exact absurd hx h0
  ·subst U;rw [e0] at Z;simp only [List.cons.injEq,Value.slice.injEq,Option.some.injEq,Addr.mk.injEq,and_true,true_and] at Z;refine ⟨G2,h0,?_,?_,h3,h4⟩
   ·rw [e0,Z.1.1,Z.1.2,Z.2]
   ·rw [hF,Z.1.1]
end
def FL (x:aU) (w:World) (cs:List Value):Prop:=∃Ah ch Ap cp Gh Gp rest,cs = .slice Ah x.V.length ch :: .slice Ap x.O.length cp :: rest∧Go.Proofs.YtajbbmembionpaaGreat.bb.rd w (ff.mk x.V 47) [.slice Ah x.V.length ch] Gh∧Go.Proofs.YtajbbmembionpaaGreat.bb.rd w (ff.mk x.O 53) [.slice Ap x.O.length cp] Gp
end Go.Proofs.YtajbbmembionpaaGreat
