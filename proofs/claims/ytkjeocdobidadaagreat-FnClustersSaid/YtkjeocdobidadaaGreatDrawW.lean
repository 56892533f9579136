/- Draws of words, and of one label, taint, tolerance. No condition. -/
import Derived.Test.YtkjeocdobidadaaGreatBest
import Derived.Test.YtkjeocdobidadaaGreatRowK
import Derived.Test.YtkjeocdobidadaaGreatSortLabelsS
import Derived.Test.YtkjeocdobidadaaGreatSortTaintsS
import Derived.Test.YtkjeocdobidadaaGreatSortTolerancesS
import Derived.Test.YtkjeocdobidadaaGreatMark
import Derived.Deep.MidRow
import Derived.Laws.CopyRow
namespace Go.Proofs.YtkjeocdobidadaaGreat
open Go.ChangeShapes Go.WideShapes Go.ChangeAt Go.RowKit
set_option linter.unusedVariables false
set_option linter.unusedSimpArgs false
set_option maxHeartbeats 2000000
set_option maxRecDepth 100000
theorem alloc_cell (W:World) (e:TypeId) (xs:Array Value) (k:Nat) (u:Value) (h:xs[k]? = some u):(W.alloc (.cells xs e)).cell? ⟨W.heap.size,k,none⟩ = some u:=by
 rw [cell_of_row _ _ _ _ _ _ (heap_alloc_new W _)];exact h
theorem Own.drawn {α:Type} [Dat α] {w w':World} {B c:Nat} {x:α} {cs:List Value} {F:List Nat} (h:Own w B x cs F) (hu:nN [c] w w') (hc:c < B):Own w' B x cs F :=
 hu.own h (fun b hb hm=>by have:=h.base b hb;rw [List.mem_singleton] at hm;omega)
theorem Key_draw (w:World) (c:Nat) (A:Option Addr) (n cap:Nat) (h:DCur w c A n cap) :
 Calls Tryz.prog 170 #[.pointer (some ⟨c,0,none⟩)] w fun e w'=>∃s:ByteArray,e = .returned (.string s)∧(s.size≤8)∧DCur w' c A n cap∧nN [c] w w':=by
 have hlt:=h.lt;have HC:=I' h;clear h;go_enter Tryz.func170,Tryz.ntmps170;go_wp2_with fail
 refine (Pick_draw (fun s=>s.size≤8) w.heap.size 6 _ O' _ c A n cap (HC.out.ext (ak (aj _) _)) O' S' (fun k hk=>?_)).mono ?_
 ·exact Zadw
 rintro e w1 ⟨s,rfl,hs,H1,hu⟩;replace H1:=I' H1;replace hu:=(nN.lq [c] (ak (aj w) _)).trans hu;go_wp2;go_ret
 exact ⟨s,rfl,hs,H1.out,hu⟩
theorem Value_draw (w:World) (c:Nat) (A:Option Addr) (n cap:Nat) (h:DCur w c A n cap) :
 Calls Tryz.prog 171 #[.pointer (some ⟨c,0,none⟩)] w fun e w'=>∃s:ByteArray,e = .returned (.string s)∧(s.size≤8)∧DCur w' c A n cap∧nN [c] w w':=by
 have hlt:=h.lt;have HC:=I' h;clear h;go_enter Tryz.func171,Tryz.ntmps171;go_wp2_with fail
 refine (Pick_draw (fun s=>s.size≤8) w.heap.size 6 _ O' _ c A n cap (HC.out.ext (ak (aj _) _)) O' S' (fun k hk=>?_)).mono ?_
 ·exact Zadw
 rintro e w1 ⟨s,rfl,hs,H1,hu⟩;replace H1:=I' H1;replace hu:=(nN.lq [c] (ak (aj w) _)).trans hu;go_wp2;go_ret
 exact ⟨s,rfl,hs,H1.out,hu⟩
theorem Name_draw (w:World) (c:Nat) (A:Option Addr) (n cap:Nat) (h:DCur w c A n cap) :
 Calls Tryz.prog 102 #[.pointer (some ⟨c,0,none⟩)] w fun e w'=>∃s:ByteArray,e = .returned (.string s)∧(s.size≤8∧s≠⟨#[110,111,119,104,101,114,101]⟩)∧DCur w' c A n cap∧nN [c] w w':=by
 have hlt:=h.lt;have HC:=I' h;clear h;go_enter Tryz.func102,Tryz.ntmps102;go_wp2_with fail
 refine (Pick_draw (fun s=>s.size≤8∧s≠⟨#[110,111,119,104,101,114,101]⟩) w.heap.size 7 _ O' _ c A n cap (HC.out.ext (ak (aj _) _)) O' S' (fun k hk=>?_)).mono ?_
 ·have hk':k = 0∨k = 1∨k = 2∨k = 3∨k = 4∨k = 5∨k = 6:=by omega
  rcases hk' with rfl | rfl | rfl | rfl | rfl | rfl | rfl <;> exact ⟨_,alloc_cell _ _ _ _ _ rfl,by decide⟩
 rintro e w1 ⟨s,rfl,hs,H1,hu⟩;replace H1:=I' H1;replace hu:=(nN.lq [c] (ak (aj w) _)).trans hu;go_wp2;go_ret
 exact ⟨s,rfl,hs,H1.out,hu⟩
theorem Amount_draw (w:World) (c:Nat) (A:Option Addr) (n cap:Nat) (h:DCur w c A n cap) :
 Calls Tryz.prog 166 #[.pointer (some ⟨c,0,none⟩)] w fun e w'=>∃s:Int,e = .returned (.int .i64 s)∧(0≤s∧s≤1024000)∧DCur w' c A n cap∧nN [c] w w':=by
 have hlt:=h.lt;have HC:=I' h;clear h;go_enter Tryz.func166,Tryz.ntmps166;go_wp2_with fail
 refine (PickInt_draw (fun s=>0≤s∧s≤1024000) w.heap.size 9 _ O' _ c A n cap (HC.out.ext (ak (aj _) _)) O' S' (fun k hk=>?_)).mono ?_
 ·have hk':k = 0∨k = 1∨k = 2∨k = 3∨k = 4∨k = 5∨k = 6∨k = 7∨k = 8:=by omega
  rcases hk' with rfl | rfl | rfl | rfl | rfl | rfl | rfl | rfl | rfl <;> exact ⟨_,alloc_cell _ _ _ _ _ rfl,O'⟩
 rintro e w1 ⟨s,rfl,hs,H1,hu⟩;replace H1:=I' H1;replace hu:=(nN.lq [c] (ak (aj w) _)).trans hu;go_wp2;go_ret
 exact ⟨s,rfl,hs,H1.out,hu⟩
theorem nN.new {F:List Nat} {w w1:World} (h:nN F w w1) {b:Nat} (hb:w.heap.size≤b) (i:Nat) (u:Value):nN F w (w1.setCell ⟨b,i,none⟩ u) :=
 ⟨h.os,h.tape,h.output,by simp [World.setCell];exact h.size,fun k hk hn=>(Below.heap_setCell _ _ _ _ atX).trans (h.block k hk hn)⟩
theorem Taint_draw (w:World) (c:Nat) (A:Option Addr) (n cap:Nat) (h:DCur w c A n cap) :
 Calls Tryz.prog 210 #[.pointer (some ⟨c,0,none⟩)] w fun e w'=>∃x:iU,e = .returned (.agg #[.string x.key,.string x.value,.int .i64 x.effect])∧(x.key.size≤8∧x.value.size≤8∧1≤x.effect∧x.effect≤2)∧DCur w' c A n cap∧nN [c] w w':=by
 have hlt:=h.lt;have HC:=I' h;clear h;go_enter Tryz.func210,Tryz.ntmps210;go_wp2_with fail
 refine (Key_draw _ c A n cap (HC.out.ext (ak (aj _) _))).mono ?_;rintro e w1 ⟨s1,rfl,hs1,H1,hu1⟩;replace H1:=I' H1;go_wp2_with fail
 refine (Value_draw _ c A n cap H1.out).mono ?_;rintro e w2 ⟨s2,rfl,hs2,H2,hu2⟩;replace H2:=I' H2;go_wp2_with fail
 refine (Below_draw 2 O' _ c A n cap H2.out).mono ?_;rintro e w3 ⟨r,rfl,hr,H3,hu3⟩;replace H3:=I' H3;have B0:=oG.new w [.string ⟨#[]⟩,.string ⟨#[]⟩,.int .i64 0] 151;have B3:=((B0.upd hu1 O').upd hu2 O').upd hu3 O';have q0:=B3.cell (i:=0) rfl;have q1:=B3.cell (i:=1) rfl;have q2:=B3.cell (i:=2) rfl;have f0:=B3.fz 0;have f1:=B3.fz 1;have f2:=B3.fz 2;clear B0 B3;go_wp2;refine bodyPost_ret (v:=.agg #[.string s1,.string s2,.int .i64 (1+r)]) (by simp [results,Tryz.results210,go_sem, *]) rfl ?_;exact ⟨⟨s1,s2,1+r⟩,rfl,⟨hs1,hs2,by dsimp only;omega,by dsimp only;omega⟩,((H3.out.far hlt 0 _).far hlt 1 _).far hlt 2 _,((((((nN.lq [c] (ak (aj w) _)).trans hu1).trans hu2).trans hu3).new (Nat.le_refl _) 0 _).new (Nat.le_refl _) 1 _).new (Nat.le_refl _) 2 _⟩
theorem Tolerance_draw (w:World) (c:Nat) (A:Option Addr) (n cap:Nat) (h:DCur w c A n cap) :
 Calls Tryz.prog 202 #[.pointer (some ⟨c,0,none⟩)] w fun e w'=>∃x:bH,e = .returned (.agg #[.string x.key,.bool x.equal,.string x.value,.int .i64 x.effect])∧(x.key.size≤8∧x.value.size≤8∧0≤x.effect∧x.effect≤2)∧DCur w' c A n cap∧nN [c] w w':=by
 have hlt:=h.lt;have HC:=I' h;clear h;go_enter Tryz.func202,Tryz.ntmps202;go_wp2_with fail
 refine (Key_draw _ c A n cap (HC.out.ext (ak (aj _) _))).mono ?_;rintro e w1 ⟨s1,rfl,hs1,H1,hu1⟩;replace H1:=I' H1;go_wp2_with fail
 refine (Below_draw 3 O' _ c A n cap H1.out).mono ?_;rintro e w2 ⟨r,rfl,hr,H2,hu2⟩;replace H2:=I' H2;have X0:=oG.new w [.string ⟨#[]⟩,.bool false,.string ⟨#[]⟩,.int .i64 0] 148;have X2:=(X0.upd hu1 O').upd hu2 O';have hz1:=hu1.size;have hz2:=hu2.size;simp at hz1;have hc2:=H2.out.lt;have U2:=I' (((nN.lq [c] (ak (aj w) _)).trans hu1).trans hu2);have Y2:=oG.new w2 [.string s1,.bool false,.string ⟨#[]⟩,.int .i64 r] 148;replace X2:=X2.ext (ak (aj _) (.cells [.string s1,.bool false,.string ⟨#[]⟩,.int .i64 r].toArray 148));replace U2:=I' (U2.out.alloc (.cells #[.string s1,.bool false,.string ⟨#[]⟩,.int .i64 r] 148));clear X0 hu1 hu2;go_wp2_with fail
 refine (Once_draw 2 O' _ c A n cap (H2.out.ext (ak (aj _) _))).mono ?_;rintro e w3 ⟨b,rfl,H3,hu3⟩;replace H3:=I' H3;have X3:=X2.upd hu3 O';have Y3:=Y2.upd hu3 O';have U3:=I' (U2.out.trans hu3);have hz3:=hu3.size;simp at hz3;clear X2 Y2 hu3 U2;cases b
 ·have kY3_0:=Y3.cell (i:=0) rfl;have fY3_0:=Y3.fz 0;have kY3_1:=Y3.cell (i:=1) rfl;have fY3_1:=Y3.fz 1;have kY3_2:=Y3.cell (i:=2) rfl;have fY3_2:=Y3.fz 2;have kY3_3:=Y3.cell (i:=3) rfl;have fY3_3:=Y3.fz 3;go_wp2_with fail
  refine (Once_draw 3 O' _ c A n cap H3.out).mono ?_;rintro e w4 ⟨b,rfl,H4,Td⟩;replace H4:=I' H4;have X4:=X3.upd Td O';have Y4:=Y3.upd Td O';have U4:=I' (U3.out.trans Td);clear kY3_0 fY3_0 kY3_1 fY3_1 kY3_2 fY3_2 kY3_3 fY3_3;clear X3 Y3 Td U3;have kX4_0:=X4.cell (i:=0) rfl;have fX4_0:=X4.fz 0;have kX4_1:=X4.cell (i:=1) rfl;have fX4_1:=X4.fz 1;have kX4_2:=X4.cell (i:=2) rfl;have fX4_2:=X4.fz 2;have kX4_3:=X4.cell (i:=3) rfl;have fX4_3:=X4.fz 3;have kY4_0:=Y4.cell (i:=0) rfl;have fY4_0:=Y4.fz 0;have kY4_1:=Y4.cell (i:=1) rfl;have fY4_1:=Y4.fz 1;have kY4_2:=Y4.cell (i:=2) rfl;have fY4_2:=Y4.fz 2;have kY4_3:=Y4.cell (i:=3) rfl;have fY4_3:=Y4.fz 3;cases b
  ·go_wp2;refine bodyPost_ret (v:=.agg #[.string s1,.bool false,.string ⟨#[]⟩,.int .i64 r]) (by simp [results,Tryz.results202,go_sem, *]) rfl ?_;exact ⟨⟨s1,false,⟨#[]⟩,r⟩,rfl,⟨hs1,Nat.zero_le _,by dsimp only;omega,by dsimp only;omega⟩,((((H4.out.far hlt 0 _).far hlt 1 _).far hlt 2 _).far hlt 3 _),((((U4.out.new (Nat.le_refl _) 0 _).new (Nat.le_refl _) 1 _).new (Nat.le_refl _) 2 _).new (Nat.le_refl _) 3 _)⟩
  ·go_wp2;refine bodyPost_ret (v:=.agg #[.string ⟨#[]⟩,.bool false,.string ⟨#[]⟩,.int .i64 r]) (by simp [results,Tryz.results202,go_sem, *]) rfl ?_;exact ⟨⟨⟨#[]⟩,false,⟨#[]⟩,r⟩,rfl,⟨Nat.zero_le _,Nat.zero_le _,by dsimp only;omega,by dsimp only;omega⟩,(((((H4.out.far O' 0 _).far hlt 0 _).far hlt 1 _).far hlt 2 _).far hlt 3 _),(((((U4.out.new O' 0 _).new (Nat.le_refl _) 0 _).new (Nat.le_refl _) 1 _).new (Nat.le_refl _) 2 _).new (Nat.le_refl _) 3 _)⟩
 ·have kY3_0:=Y3.cell (i:=0) rfl;have fY3_0:=Y3.fz 0;have kY3_1:=Y3.cell (i:=1) rfl;have fY3_1:=Y3.fz 1;have kY3_2:=Y3.cell (i:=2) rfl;have fY3_2:=Y3.fz 2;have kY3_3:=Y3.cell (i:=3) rfl;have fY3_3:=Y3.fz 3;go_wp2_with fail
  refine (Value_draw _ c A n cap (H3.out.far O' 1 _)).mono ?_;rintro e w4 ⟨s2,rfl,hs2,H4,Td⟩;replace H4:=I' H4;have X4:=(X3.far O' 1 _).upd Td O';have Y4:=(Y3.put 1 _).upd Td O';have U4:=I' ((U3.out.new O' 1 _).trans Td);clear kY3_0 fY3_0 kY3_1 fY3_1 kY3_2 fY3_2 kY3_3 fY3_3;clear X3 Y3 Td U3;have kX4_0:=X4.cell (i:=0) rfl;have fX4_0:=X4.fz 0;have kX4_1:=X4.cell (i:=1) rfl;have fX4_1:=X4.fz 1;have kX4_2:=X4.cell (i:=2) rfl;have fX4_2:=X4.fz 2;have kX4_3:=X4.cell (i:=3) rfl;have fX4_3:=X4.fz 3;have kY4_0:=Y4.cell (i:=0) rfl;have fY4_0:=Y4.fz 0;have kY4_1:=Y4.cell (i:=1) rfl;have fY4_1:=Y4.fz 1;have kY4_2:=Y4.cell (i:=2) rfl;have fY4_2:=Y4.fz 2;have kY4_3:=Y4.cell (i:=3) rfl;have fY4_3:=Y4.fz 3;go_wp2;refine bodyPost_ret (v:=.agg #[.string s1,.bool true,.string s2,.int .i64 r]) (by simp [results,Tryz.results202,go_sem, *]) rfl ?_;exact ⟨⟨s1,true,s2,r⟩,rfl,⟨hs1,hs2,by dsimp only;omega,by dsimp only;omega⟩,(((((H4.out.far O' 2 _).far hlt 0 _).far hlt 1 _).far hlt 2 _).far hlt 3 _),(((((U4.out.new O' 2 _).new (Nat.le_refl _) 0 _).new (Nat.le_refl _) 1 _).new (Nat.le_refl _) 2 _).new (Nat.le_refl _) 3 _)⟩
structure Only (g:Nat) (w w':World):Prop where
 os:w'.os = w.os
 tape:w'.tape = w.tape
 output:w'.output = w.output
 size:w'.heap.size = w.heap.size
 block:∀b,b≠g→w'.heap[b]? = w.heap[b]?
section
variable {P:Program} {w w':World} {g:Nat}
theorem oG.only {b:Nat} {cs:List Value} (h:oG w b cs) (ho:Only g w w') (hb:b≠g):oG w' b cs:=h.keep (ho.block b hb)
theorem nN.only {F:List Nat} {w0:World} (h:nN F w0 w) (ho:Only g w w') (hg:w0.heap.size≤g):nN F w0 w' :=
 ⟨ho.os.trans h.os,ho.tape.trans h.tape,ho.output.trans h.output,by rw [ho.size];exact h.size,fun i hi hn=>(ho.block i O').trans (h.block i hi hn)⟩
theorem DCur.only {c n cap:Nat} {A:Option Addr} (h:DCur w c A n cap) (ho:Only g w w') (hg:c < g):DCur w' c A n cap:=by
 obtain ⟨⟨i,x,t,h1,h2⟩,h3,h4⟩:=h;refine ⟨⟨i,x,t,(ho.block c O').trans h1,h2⟩,fun k hk=>?_,h4⟩;obtain ⟨q,o,v,e,hq,hv,hv0⟩:=h3 k hk;exact ⟨q,o,v,e,hq,(World.cell?_of_block (ho.block q O')).trans hv,hv0⟩
theorem Own.only {α:Type} [Dat α] {B:Nat} {x:α} {cs:List Value} {F:List Nat} (h:Own w B x cs F) (ho:Only g w w') (hg:∀b∈F,b≠g):Own w' B x cs F :=
 h.keep (fun b hb=>ho.block b (hg b hb)) (by rw [ho.size];exact Nat.le_refl _)
theorem ext_only {w0:World} (h:Below w0.heap.size w0 w) (ho:Only g w w') (hg:w0.heap.size≤g):Below w0.heap.size w0 w' :=
 ⟨ho.os.trans h.os,ho.tape.trans h.tape,ho.output.trans h.output,by rw [ho.size];exact h.size,fun i hi=>(ho.block i O').trans (h.block i hi)⟩
theorem oG.new3 (w:World) (a b:Obj) (cs:List Value) (t:TypeId):oG (((w.alloc a).alloc b).alloc (.cells cs.toArray t)) (w.heap.size+1+1) cs:=by
 have h:=oG.new ((w.alloc a).alloc b) cs t;have e:((w.alloc a).alloc b).heap.size = w.heap.size+1+1:=by simp
 rw [e] at h;exact h
theorem oG.range {cs:List Value} (h:oG w g cs):w.rangeAt g 0 cs:=fun j v hv=>by
 rw [Nat.zero_add];exact h.cell hv
theorem wp_storeB {op:Oper} {a:Act} {K:Act→World→Prop} {Q:Exit→Act→World→Prop} (ty:TypeId) (x y:Operand) (ho:op.op = .store ty x y)
 (g o:Nat) (cs old:List Value) (hx:a.eval x = .pointer (some ⟨g,o,none⟩)) (hy:a.eval y = .agg cs.toArray) (hB:oG w g old) (hl:o+cs.length≤old.length)
 (hi:(P.info? ty).map (·.size) = some cs.length) (h1:∀v∈cs,v.oneCell' = true)
 (h:∀w',oG w' g (old.take o++cs++old.drop (o+cs.length))→Only g w w'→K (a.put op.dst undef) w'):op.wp P a w K Q:=by
 obtain ⟨t,hg⟩:=hB;have hr:=run_storeCells_at (P:=P) g o t cs 0 old.toArray w hg (by simpa using hl) h1;have hv:(storeVar ty ⟨g,o,none⟩ (.agg cs.toArray)).run P w = .ok () (w.setRow g (old.take o++cs++old.drop (o+cs.length)).toArray):=by
  cases hq:P.info? ty with
  | none=>simp [hq] at hi
  | some i =>have hs:cs.length = i.size:=(by simp [hq] at hi;omega);simp only [Nat.add_zero,List.toList_toArray] at hr;simp [storeVar,sizeOf,typeInfo,hq,Value.cells,hs,hr]
 unfold Oper.wp execOp;simp only [ho,hx,hy,Instr.storeAt,Instr.sureAddr,Sem.run_bind,Sem.run_pure,Result.andThen_ok,hv];refine h _ ⟨t,setRow_heap w g _ _ t _ hg⟩ ⟨rfl,rfl,rfl,by simp [World.setRow],fun b hb=>?_⟩;simp [World.setRow,Array.getElem?_modify,hb,Ne.symm hb]
theorem wp_loadB {op:Oper} {a:Act} {K:Act→World→Prop} {Q:Exit→Act→World→Prop} (ty:TypeId) (x:Operand) (ho:op.op = .load ty x)
 (g:Nat) (cs:List Value) (hx:a.eval x = .pointer (some ⟨g,0,none⟩)) (d:TypeDesc) (hB:oG w g cs) (hu:P.underlying ty = some d) (hd:d.isRow = true) (hi:(P.info? ty).map (·.size) = some cs.length)
 (h:K (a.put op.dst (.agg cs.toArray)) w):op.wp P a w K Q :=
 wp_load_mid ty x ho g 0 hx cs d hB.range hu hd hi h
theorem results_cellB {fn:Func} {p:Tmp} {ty:TypeId} (h:fn.results = #[.cell p ty]) (tmps:Array Value) (g:Nat) (cs:List Value) (d:TypeDesc) (hp:tmps.getD p undef = .pointer (some ⟨g,0,none⟩)) (hB:oG w g cs)
 (hu:P.underlying ty = some d) (hd:(match d with | .struct _ | .array _ _=>true | _=>false) = true) (hi:(P.info? ty).map (·.size) = some cs.length):(results fn tmps).run P w = .ok (.agg cs.toArray) w:=by
 obtain ⟨t,h1⟩:=hB;exact results_cell_row h tmps w g t cs.toArray (0,0) d hp h1 hu hd avv
theorem results_cellB2 {fn:Func} {p u:Tmp} {ty:TypeId} (h:fn.results = #[.cell p ty,.tmp u]) (tmps:Array Value) (g:Nat) (cs:List Value) (d:TypeDesc) (v:Value) (hp:tmps.getD p undef = .pointer (some ⟨g,0,none⟩)) (hv:tmps.getD u undef = v) (hB:oG w g cs)
 (hu:P.underlying ty = some d) (hd:d.isRow = true) (hi:(P.info? ty).map (·.size) = some cs.length):(results fn tmps).run P w = .ok (.tuple #[.agg cs.toArray,v]) w:=by
 have hr:=run_loadVar_mid (P:=P) w g 0 ty cs d hB.range hu hd hi;have hp':tmps[p]?.getD undef = .pointer (some ⟨g,0,none⟩):=by simpa using hp
 have hv':tmps[u]?.getD undef = v:=by simpa using hv
 simp [results,h,hp',hv',asAddr,hr]
end
end Go.Proofs.YtkjeocdobidadaaGreat
