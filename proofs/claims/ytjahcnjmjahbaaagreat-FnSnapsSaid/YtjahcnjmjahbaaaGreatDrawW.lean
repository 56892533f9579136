/- Draws of words, and of one label, taint, tolerance. No condition. -/
import Derived.Test.YtjahcnjmjahbaaaGreatHostNormP
import Derived.Test.YtjahcnjmjahbaaaGreatRankS
import Derived.Test.YtjahcnjmjahbaaaGreatSortTaintsS
namespace Go.Proofs.YtjahcnjmjahbaaaGreat
open Go.ChangeShapes Go.WideShapes Go.ChangeAt Go.RowKit
set_option linter.unusedVariables false
set_option linter.unusedSimpArgs false
set_option maxHeartbeats 4000000
set_option maxRecDepth 100000
theorem Jb (W:World) (e:TypeId) (xs:Array Value) (k:Nat) (u:Value) (h:xs[k]? = some u):(W.alloc (.cells xs e)).cell? ⟨W.heap.size,k,none⟩ = some u:=by
 rw [cell_of_row _ _ _ _ _ _ (heap_alloc_new W _)];exact h
theorem am.drawn {α:Type} [bd α] {w w':World} {B c:Nat} {x:α} {cs:List Value} {F:List Nat} (h:am w B x cs F) (hu:nN [c] w w') (hc:c < B):am w' B x cs F :=
 hu.jk h (fun b hb hm=>by have:=h.base b hb;rw [List.mem_singleton] at hm;omega)
theorem Qg (w:World) (c:Nat) (A:Option Addr) (n aL:Nat) (h:cr w c A n aL) :
 Calls Tryz.prog 214 #[.pointer (some ⟨c,0,none⟩)] w fun e w'=>∃s:ByteArray,e = .returned (.string s)∧(s.size≤8)∧cr w' c A n aL∧nN [c] w w':=by
 have ap:=h.lt;have HC:=I h;clear h;go_enter Tryz.func214,Tryz.ntmps214;go_wp2_with fail
 refine (Um (fun s=>s.size≤8) w.heap.size 6 _ J _ c A n aL (HC.out.ext (ak (aj _) _)) J S' (fun k hk=>?_)).mono ?_
 ·exact Ja
 rintro e w1 ⟨s,rfl,hs,H1,hu⟩;replace H1:=I H1;replace hu:=(nN.lq [c] (ak (aj w) _)).trans hu;go_wp2;go_ret
 exact ⟨s,rfl,hs,H1.out,hu⟩
theorem Qh (w:World) (c:Nat) (A:Option Addr) (n aL:Nat) (h:cr w c A n aL) :
 Calls Tryz.prog 215 #[.pointer (some ⟨c,0,none⟩)] w fun e w'=>∃s:ByteArray,e = .returned (.string s)∧(s.size≤8)∧cr w' c A n aL∧nN [c] w w':=by
 have ap:=h.lt;have HC:=I h;clear h;go_enter Tryz.func215,Tryz.ntmps215;go_wp2_with fail
 refine (Um (fun s=>s.size≤8) w.heap.size 6 _ J _ c A n aL (HC.out.ext (ak (aj _) _)) J S' (fun k hk=>?_)).mono ?_
 ·exact Ja
 rintro e w1 ⟨s,rfl,hs,H1,hu⟩;replace H1:=I H1;replace hu:=(nN.lq [c] (ak (aj w) _)).trans hu;go_wp2;go_ret
 exact ⟨s,rfl,hs,H1.out,hu⟩
theorem aAO (w:World) (c:Nat) (A:Option Addr) (n aL:Nat) (h:cr w c A n aL) :
 Calls Tryz.prog 115 #[.pointer (some ⟨c,0,none⟩)] w fun e w'=>∃s:ByteArray,e = .returned (.string s)∧(s.size≤8∧s≠⟨#[110,111,119,104,101,114,101]⟩)∧cr w' c A n aL∧nN [c] w w':=by
 have ap:=h.lt;have HC:=I h;clear h;go_enter Tryz.func115,Tryz.ntmps115;go_wp2_with fail
 refine (Um (fun s=>s.size≤8∧s≠⟨#[110,111,119,104,101,114,101]⟩) w.heap.size 7 _ J _ c A n aL (HC.out.ext (ak (aj _) _)) J S' (fun k hk=>?_)).mono ?_
 ·have oY:k = 0∨k = 1∨k = 2∨k = 3∨k = 4∨k = 5∨k = 6:=by omega
  rcases oY with rfl | rfl | rfl | rfl | rfl | rfl | rfl <;> exact ⟨_,Jb _ _ _ _ _ rfl,by decide⟩
 rintro e w1 ⟨s,rfl,hs,H1,hu⟩;replace H1:=I H1;replace hu:=(nN.lq [c] (ak (aj w) _)).trans hu;go_wp2;go_ret
 exact ⟨s,rfl,hs,H1.out,hu⟩
theorem ayu (w:World) (c:Nat) (A:Option Addr) (n aL:Nat) (h:cr w c A n aL) :
 Calls Tryz.prog 191 #[.pointer (some ⟨c,0,none⟩)] w fun e w'=>∃s:Int,e = .returned (.int .i64 s)∧(0≤s∧s≤1024000)∧cr w' c A n aL∧nN [c] w w':=by
 have ap:=h.lt;have HC:=I h;clear h;go_enter Tryz.func191,Tryz.ntmps191;go_wp2_with fail
 refine (Un (fun s=>0≤s∧s≤1024000) w.heap.size 9 _ J _ c A n aL (HC.out.ext (ak (aj _) _)) J S' (fun k hk=>?_)).mono ?_
 ·have oY:k = 0∨k = 1∨k = 2∨k = 3∨k = 4∨k = 5∨k = 6∨k = 7∨k = 8:=by omega
  rcases oY with rfl | rfl | rfl | rfl | rfl | rfl | rfl | rfl | rfl <;> exact ⟨_,Jb _ _ _ _ _ rfl,J⟩
 rintro e w1 ⟨s,rfl,hs,H1,hu⟩;replace H1:=I H1;replace hu:=(nN.lq [c] (ak (aj w) _)).trans hu;go_wp2;go_ret
 exact ⟨s,rfl,hs,H1.out,hu⟩
theorem nN.new {F:List Nat} {w w1:World} (h:nN F w w1) {b:Nat} (hb:w.heap.size≤b) (i:Nat) (u:Value):nN F w (w1.setCell ⟨b,i,none⟩ u) :=
 ⟨h.os,h.tape,h.output,by simp [World.setCell];exact h.size,fun k hk hn=>(Below.heap_setCell _ _ _ _ bz).trans (h.block k hk hn)⟩
theorem aC9 (w:World) (c:Nat) (A:Option Addr) (n aL:Nat) (h:cr w c A n aL) :
 Calls Tryz.prog 218 #[.pointer (some ⟨c,0,none⟩)] w fun e w'=>∃x:iU,e = .returned (.agg #[.string x.key,.string x.value,.int .i64 x.al])∧(x.key.size≤8∧x.value.size≤8∧1≤x.al∧x.al≤2)∧cr w' c A n aL∧nN [c] w w':=by
 have ap:=h.lt;have HC:=I h;clear h;go_enter Tryz.func218,Tryz.ntmps218;go_wp2_with fail
 refine (Qg _ c A n aL (HC.out.ext (ak (aj _) _))).mono ?_;rintro e w1 ⟨s1,rfl,cJ,H1,hu1⟩;replace H1:=I H1;go_wp2_with fail
 refine (Qh _ c A n aL H1.out).mono ?_;rintro e w2 ⟨s2,rfl,cE,H2,cR⟩;replace H2:=I H2;go_wp2_with fail
 refine (lO 2 J _ c A n aL H2.out).mono ?_;rintro e w3 ⟨r,rfl,hr,H3,b8⟩;replace H3:=I H3;have B0:=oG.new w [.string ⟨#[]⟩,.string ⟨#[]⟩,.int .i64 0] 84;have B3:=((B0.bX hu1 J).bX cR J).bX b8 J;have q0:=B3.cell (i:=0) rfl;have q1:=B3.cell (i:=1) rfl;have q2:=B3.cell (i:=2) rfl;have f0:=B3.fz 0;have f1:=B3.fz 1;have f2:=B3.fz 2;clear B0 B3;go_wp2;refine bodyPost_ret (v:=.agg #[.string s1,.string s2,.int .i64 (1+r)]) (by simp [results,Tryz.results218,go_sem, *]) rfl ?_;exact ⟨⟨s1,s2,1+r⟩,rfl,⟨cJ,cE,by dsimp only;omega,by dsimp only;omega⟩,((H3.out.bE ap 0 _).bE ap 1 _).bE ap 2 _,((((((nN.lq [c] (ak (aj w) _)).trans hu1).trans cR).trans b8).new (Nat.le_refl _) 0 _).new (Nat.le_refl _) 1 _).new (Nat.le_refl _) 2 _⟩
theorem azF (w:World) (c:Nat) (A:Option Addr) (n aL:Nat) (h:cr w c A n aL) :
 Calls Tryz.prog 217 #[.pointer (some ⟨c,0,none⟩)] w fun e w'=>∃x:bH,e = .returned (.agg #[.string x.key,.bool x.equal,.string x.value,.int .i64 x.al])∧(x.key.size≤8∧x.value.size≤8∧0≤x.al∧x.al≤2)∧cr w' c A n aL∧nN [c] w w':=by
 have ap:=h.lt;have HC:=I h;clear h;go_enter Tryz.func217,Tryz.ntmps217;go_wp2_with fail
 refine (Qg _ c A n aL (HC.out.ext (ak (aj _) _))).mono ?_;rintro e w1 ⟨s1,rfl,cJ,H1,hu1⟩;replace H1:=I H1;go_wp2_with fail
 refine (lO 3 J _ c A n aL H1.out).mono ?_;rintro e w2 ⟨r,rfl,hr,H2,cR⟩;replace H2:=I H2;have X0:=oG.new w [.string ⟨#[]⟩,.bool false,.string ⟨#[]⟩,.int .i64 0] 91;have X2:=(X0.bX hu1 J).bX cR J;have cQ:=hu1.size;have cD:=cR.size;simp at cQ;have ce:=H2.out.lt;have U2:=I (((nN.lq [c] (ak (aj w) _)).trans hu1).trans cR);have Y2:=oG.new w2 [.string s1,.bool false,.string ⟨#[]⟩,.int .i64 r] 91;replace X2:=X2.ext (ak (aj _) (.cells [.string s1,.bool false,.string ⟨#[]⟩,.int .i64 r].toArray 91));replace U2:=I (U2.out.alloc (.cells #[.string s1,.bool false,.string ⟨#[]⟩,.int .i64 r] 91));clear X0 hu1 cR;go_wp2_with fail
 refine (Cd 2 J _ c A n aL (H2.out.ext (ak (aj _) _))).mono ?_;rintro e w3 ⟨b,rfl,H3,b8⟩;replace H3:=I H3;have X3:=X2.bX b8 J;have Y3:=Y2.bX b8 J;have U3:=I (U2.out.trans b8);have eK:=b8.size;simp at eK;clear X2 Y2 b8 U2;cases b
 ·obtain ⟨L4,aB7,aB8,aB9,aCa,aCb,aCc,aCd⟩:=D5 Y3;go_wp2_with fail
  refine (Cd 3 J _ c A n aL H3.out).mono ?_;rintro e w4 ⟨b,rfl,H4,Td⟩;replace H4:=I H4;have X4:=X3.bX Td J;have Y4:=Y3.bX Td J;have U4:=I (U3.out.trans Td);clear L4 aB7 aB8 aB9 aCa aCb aCc aCd;clear X3 Y3 Td U3;obtain ⟨L5,fX4_0,kX4_1,fX4_1,kX4_2,fX4_2,kX4_3,fX4_3⟩:=D5 X4;obtain ⟨Uz,aFf,aFg,aFh,aFi,aFj,aFk,aFl⟩:=D5 Y4;cases b
  ·go_wp2;refine bodyPost_ret (v:=.agg #[.string s1,.bool false,.string ⟨#[]⟩,.int .i64 r]) (by simp [results,Tryz.results217,go_sem, *]) rfl ?_;exact ⟨⟨s1,false,⟨#[]⟩,r⟩,rfl,⟨cJ,Nat.zero_le _,by dsimp only;omega,by dsimp only;omega⟩,((((H4.out.bE ap 0 _).bE ap 1 _).bE ap 2 _).bE ap 3 _),((((U4.out.new (Nat.le_refl _) 0 _).new (Nat.le_refl _) 1 _).new (Nat.le_refl _) 2 _).new (Nat.le_refl _) 3 _)⟩
  ·go_wp2;refine bodyPost_ret (v:=.agg #[.string ⟨#[]⟩,.bool false,.string ⟨#[]⟩,.int .i64 r]) (by simp [results,Tryz.results217,go_sem, *]) rfl ?_;exact ⟨⟨⟨#[]⟩,false,⟨#[]⟩,r⟩,rfl,⟨Nat.zero_le _,Nat.zero_le _,by dsimp only;omega,by dsimp only;omega⟩,(((((H4.out.bE J 0 _).bE ap 0 _).bE ap 1 _).bE ap 2 _).bE ap 3 _),(((((U4.out.new J 0 _).new (Nat.le_refl _) 0 _).new (Nat.le_refl _) 1 _).new (Nat.le_refl _) 2 _).new (Nat.le_refl _) 3 _)⟩
 ·obtain ⟨L4,aB7,aB8,aB9,aCa,aCb,aCc,aCd⟩:=D5 Y3;go_wp2_with fail
  refine (Qh _ c A n aL (H3.out.bE J 1 _)).mono ?_;rintro e w4 ⟨s2,rfl,cE,H4,Td⟩;replace H4:=I H4;have X4:=(X3.bE J 1 _).bX Td J;have Y4:=(Y3.put 1 _).bX Td J;have U4:=I ((U3.out.new J 1 _).trans Td);clear L4 aB7 aB8 aB9 aCa aCb aCc aCd;clear X3 Y3 Td U3;obtain ⟨L5,fX4_0,kX4_1,fX4_1,kX4_2,fX4_2,kX4_3,fX4_3⟩:=D5 X4;obtain ⟨Uz,aFf,aFg,aFh,aFi,aFj,aFk,aFl⟩:=D5 Y4;go_wp2;refine bodyPost_ret (v:=.agg #[.string s1,.bool true,.string s2,.int .i64 r]) (by simp [results,Tryz.results217,go_sem, *]) rfl ?_;exact ⟨⟨s1,true,s2,r⟩,rfl,⟨cJ,cE,by dsimp only;omega,by dsimp only;omega⟩,(((((H4.out.bE J 2 _).bE ap 0 _).bE ap 1 _).bE ap 2 _).bE ap 3 _),(((((U4.out.new J 2 _).new (Nat.le_refl _) 0 _).new (Nat.le_refl _) 1 _).new (Nat.le_refl _) 2 _).new (Nat.le_refl _) 3 _)⟩
structure pn (g:Nat) (w w':World):Prop where
 os:w'.os = w.os
 tape:w'.tape = w.tape
 output:w'.output = w.output
 size:w'.heap.size = w.heap.size
 block:∀b,b≠g→w'.heap[b]? = w.heap[b]?
section
variable {P:Program} {w w':World} {g:Nat}
theorem oG.only {b:Nat} {cs:List Value} (h:oG w b cs) (ho:pn g w w') (hb:b≠g):oG w' b cs:=h.br (ho.block b hb)
theorem nN.only {F:List Nat} {w0:World} (h:nN F w0 w) (ho:pn g w w') (hg:w0.heap.size≤g):nN F w0 w' :=
 ⟨ho.os.trans h.os,ho.tape.trans h.tape,ho.output.trans h.output,by rw [ho.size];exact h.size,fun i hi hn=>(ho.block i J).trans (h.block i hi hn)⟩
theorem cr.only {c n aL:Nat} {A:Option Addr} (h:cr w c A n aL) (ho:pn g w w') (hg:c < g):cr w' c A n aL:=by
 obtain ⟨⟨i,x,t,h1,h2⟩,h3,h4⟩:=h;refine ⟨⟨i,x,t,(ho.block c J).trans h1,h2⟩,fun k hk=>?_,h4⟩;obtain ⟨q,o,v,e,hq,hv,gN⟩:=h3 k hk;exact ⟨q,o,v,e,hq,(World.cell?_of_block (ho.block q J)).trans hv,gN⟩
theorem am.only {α:Type} [bd α] {B:Nat} {x:α} {cs:List Value} {F:List Nat} (h:am w B x cs F) (ho:pn g w w') (hg:∀b∈F,b≠g):am w' B x cs F :=
 h.br (fun b hb=>ho.block b (hg b hb)) (by rw [ho.size];exact Nat.le_refl _)
theorem GC {w0:World} (h:Below w0.heap.size w0 w) (ho:pn g w w') (hg:w0.heap.size≤g):Below w0.heap.size w0 w' :=
 ⟨ho.os.trans h.os,ho.tape.trans h.tape,ho.output.trans h.output,by rw [ho.size];exact h.size,fun i hi=>(ho.block i J).trans (h.block i hi)⟩
theorem oG.vx (w:World) (a b:Obj) (cs:List Value) (t:TypeId):oG (((w.alloc a).alloc b).alloc (.cells cs.toArray t)) (w.heap.size+1+1) cs:=by
 have h:=oG.new ((w.alloc a).alloc b) cs t;have e:((w.alloc a).alloc b).heap.size = w.heap.size+1+1:=by simp
 rw [e] at h;exact h
theorem oG.range {cs:List Value} (h:oG w g cs):w.rangeAt g 0 cs:=fun j v hv=>by
 rw [Nat.zero_add];exact h.cell hv
theorem lr {op:Oper} {a:Act} {K:Act→World→Prop} {Q:Exit→Act→World→Prop} (ty:TypeId) (x y:Operand) (ho:op.op = .store ty x y)
 (g o:Nat) (cs old:List Value) (hx:a.eval x = .pointer (some ⟨g,o,none⟩)) (hy:a.eval y = .agg cs.toArray) (hB:oG w g old) (hl:o+cs.length≤old.length)
 (hi:(P.info? ty).map (·.size) = some cs.length) (h1:∀v∈cs,v.oneCell' = true)
 (h:∀w',oG w' g (old.take o++cs++old.drop (o+cs.length))→pn g w w'→K (a.put op.dst undef) w'):op.wp P a w K Q:=by
 obtain ⟨t,hg⟩:=hB;have hr:=run_storeCells_at (P:=P) g o t cs 0 old.toArray w hg (by simpa using hl) h1;have hv:(storeVar ty ⟨g,o,none⟩ (.agg cs.toArray)).run P w = .ok () (w.setRow g (old.take o++cs++old.drop (o+cs.length)).toArray):=by
  cases hq:P.info? ty with
  | none=>simp [hq] at hi
  | some i =>have hs:cs.length = i.size:=(by simp [hq] at hi;omega);simp only [Nat.add_zero,List.toList_toArray] at hr;simp [storeVar,sizeOf,typeInfo,hq,Value.cells,hs,hr]
 unfold Oper.wp execOp;simp only [ho,hx,hy,Instr.storeAt,Instr.sureAddr,Sem.run_bind,Sem.run_pure,Result.andThen_ok,hv];refine h _ ⟨t,setRow_heap w g _ _ t _ hg⟩ ⟨rfl,rfl,rfl,by simp [World.setRow],fun b hb=>?_⟩;simp [World.setRow,Array.getElem?_modify,hb,Ne.symm hb]
theorem BF {op:Oper} {a:Act} {K:Act→World→Prop} {Q:Exit→Act→World→Prop} (ty:TypeId) (x:Operand) (ho:op.op = .load ty x)
 (g:Nat) (cs:List Value) (hx:a.eval x = .pointer (some ⟨g,0,none⟩)) (d:TypeDesc) (hB:oG w g cs) (hu:P.underlying ty = some d) (hd:d.isRow = true) (hi:(P.info? ty).map (·.size) = some cs.length)
 (h:K (a.put op.dst (.agg cs.toArray)) w):op.wp P a w K Q :=
 wp_load_mid ty x ho g 0 hx cs d hB.range hu hd hi h
theorem UB {fn:Func} {p:Tmp} {ty:TypeId} (h:fn.results = #[.cell p ty]) (tmps:Array Value) (g:Nat) (cs:List Value) (d:TypeDesc) (hp:tmps.getD p undef = .pointer (some ⟨g,0,none⟩)) (hB:oG w g cs)
 (hu:P.underlying ty = some d) (hd:(match d with | .struct _ | .array _ _=>true | _=>false) = true) (hi:(P.info? ty).map (·.size) = some cs.length):(results fn tmps).run P w = .ok (.agg cs.toArray) w:=by
 obtain ⟨t,h1⟩:=hB;exact results_cell_row h tmps w g t cs.toArray (0,0) d hp h1 hu hd avv
theorem yc {fn:Func} {p u:Tmp} {ty:TypeId} (h:fn.results = #[.cell p ty,.tmp u]) (tmps:Array Value) (g:Nat) (cs:List Value) (d:TypeDesc) (v:Value) (hp:tmps.getD p undef = .pointer (some ⟨g,0,none⟩)) (hv:tmps.getD u undef = v) (hB:oG w g cs)
 (hu:P.underlying ty = some d) (hd:d.isRow = true) (hi:(P.info? ty).map (·.size) = some cs.length):(results fn tmps).run P w = .ok (.tuple #[.agg cs.toArray,v]) w:=by
 have hr:=run_loadVar_mid (P:=P) w g 0 ty cs d hB.range hu hd hi;have KX:tmps[p]?.getD undef = .pointer (some ⟨g,0,none⟩):=by simpa using hp
 have hv':tmps[u]?.getD undef = v:=by simpa using hv
 simp [results,h,KX,hv',asAddr,hr]
end
theorem len8 {s:ByteArray} (h:s.size≤8):s.size≤maxLen:=by unfold maxLen;omega
theorem cr.aM {w w':World} {c n aL B:Nat} {A:Option Addr} (h:cr w c A n aL) (hb:Below B w w') (hc:c < B):cr w' c A n aL:=by
 obtain ⟨⟨i,x,t,h1,h2⟩,h3,h4⟩:=h;refine ⟨⟨i,x,t,(hb.block c hc).trans h1,h2⟩,fun k hk=>?_,h4⟩;obtain ⟨g,o,v,e,hg,hv,gN⟩:=h3 k hk;exact ⟨g,o,v,e,hg,(World.cell?_of_block (hb.block g J)).trans hv,gN⟩
theorem nN.oT {F:List Nat} {w w1 w2:World} {B:Nat} (h:nN F w w1) (hb:Below B w1 w2) (hB:w.heap.size≤B):nN F w w2 :=
 ⟨hb.os.trans h.os,hb.tape.trans h.tape,hb.output.trans h.output,Nat.le_trans h.size hb.size,fun i hi hn=>(hb.block i J).trans (h.block i hi hn)⟩
theorem am.Qx {α:Type} [bd α] {w w':World} {B B2:Nat} {x:α} {cs:List Value} {F:List Nat} (h:am w B x cs F) (hb:Below B2 w w') (hF:∀b∈F,b < B2):am w' B x cs F :=
 h.br (fun b hm=>hb.block b (hF b hm)) hb.size
theorem azD {xs:List iU} (h:(Fq xs).2 = true):La (Fq xs).1 = true:=by
 unfold Fq at h ⊢;exact zZ
theorem aBX (w:World) (c:Nat) (A:Option Addr) (n aL:Nat) (h:cr w c A n aL) :
 Calls Tryz.prog 194 #[.pointer (some ⟨c,0,none⟩)] w fun e w'=>∃(xs:List iU) (A':Option Addr) (c':Nat) (G:List Nat),e = .returned (.slice A' xs.length c')∧am w' w.heap.size xs [.slice A' xs.length c'] G∧kL iU.wt xs≤204∧cr w' c A n aL∧nN [c] w w'∧eI w' w.heap.size 84 3 A' c':=by
 have ap:=h.lt;have HC:=I h;clear h;go_enter Tryz.func194,Tryz.ntmps194;go_wp2_with fail
 go_loopw [3,4] (fun v i wr=>∃(xs:List iU) (A':Option Addr) (c':Nat) (G:List Nat) (k:Nat),v = .slice A' xs.length c'∧i = .int .i64 k∧(k:Int)≤2∧am wr w.heap.size xs [.slice A' xs.length c'] G∧Hid (kL iU.wt xs≤204)∧cr wr c A n aL∧nN [c] w wr∧Hid (eI wr w.heap.size 84 3 A' c')) (fun _ i _=>2 - (intOf i).toNat)
 case atStart =>obtain ⟨A',c',G,hv,hO⟩:=am.oJ (α:=iU) (D9 w 84 3 w.heap.size rfl) (aY.nil _ _) (fun g _ hm=>by cases hm);simp only [Value.slice.injEq,List.length_nil] at hv;obtain ⟨rfl,_,rfl⟩:=hv;exact ⟨[],_,_,G,0,rfl,rfl,J,hO,I (Nat.zero_le _),HC.out.ext (ak (aj _) _),nN.lq _ (ak (aj _) _),I (eI.oJ (D9 w 84 3 w.heap.size rfl) (Nat.le_refl _))⟩
 case round =>
  obtain ⟨xs,A',c',G,k,rfl,rfl,hk,hO,Du,hcur,hur,lz⟩:=hrel;have HO:=I hO;have sf:=I hcur;have sg:=I hur;have ot:=hur.size;have Qy:(xs.length:Int)≤204:=by have h1:=gJ iU.wt xs;have:=Du.out;omega
  clear hO hcur hur;go_wp2_with fail
  refine (lO 3 J _ c A n aL sf.out).mono ?_;rintro e w1 ⟨r,rfl,hr,H1,hu1⟩;have gH:=I (HO.out.drawn hu1 ap);have py:=I (sg.out.trans hu1);have pA:=I (lz.out.drawn hu1 ap);have cQ:=hu1.size;have fN:=I H1;clear H1 hu1 HO sf sg lz;by_cases hkr:(k:Int) < r
  ·have si:=I gH.out.lt;have vc:=I pA.out.lt;have da:=fN.out.lt
   go_wp2_with (
    at_builtin
    go_must (refine rW qD X X _ _ X (w1.alloc (.cells #[] 84)) w1.heap.size _ 0 [] (D9 w1 84 3 w1.heap.size rfl) X xs A' c' G ((show Sl w1 xs A' c' G from gH.out.rd).ext (ak (aj _) _)) X J J S' ?_)
    intro v2 w2 ds G2 dq bv aR hg cI;go_must (obtain ⟨A2,c2,eE⟩:=mY aR)
    go_must (subst eE)
    go_must (have av:Below w1.heap.size w1 w2:=lS (World.ownsRow_made (e:=84) (size:=3) w1 #[] 0 (Nat.le_refl _) (Nat.zero_le _) S') hg (ak (aj _) _) S'))
   simp only [Nat.zero_add,List.nil_append] at aR;try simp only [Nat.zero_add]
   obtain rfl:=K2 (fun hh=>(oK hh).2.1) dq;have mu:=I dq;have oB:=I (fN.out.ext av);have RZ:=I (gH.out.ext av);have CC:=I (pA.out.ext av);have mI:=I (py.out.oT av J);have cD:=av.size;have sj:=I aR;clear dq bv aR hg cI av;refine (aC9 _ c A n aL oB.out).mono ?_;rintro e w3 ⟨y,rfl,hy,H3,b8⟩;have gc:=I H3;clear H3;have gz:=I (RZ.out.drawn b8 ap);have CD:=I (CC.out.drawn b8 ap);have nA:=I (mI.out.trans b8);have ed:=rQ sj.out b8 (show c < w1.heap.size by omega);have eK:=b8.size;have nB:w1.heap.size≤w3.heap.size:=J
   go_wp2_with (
    at_builtin
    go_must (refine lC qD X _ _ X _ _ _ _ _ ed X [.string y.key,.string y.value,.int .i64 y.al] jS X eu J J nB ?_)
    intro v4 w4 ev mr Wy;go_must (obtain ⟨A4,c4,hv4⟩:=mY ev)
    go_must (subst hv4)
    go_must (have bO:Below w1.heap.size w3 w4:=lS ed mr (Below.refl _ _) nB))
   have dB:(xs++[y]).length = xs.length+1:=S';have xm:aY w4 w1.heap.size (xs++[y]) (ds++[.string y.key,.string y.value,.int .i64 y.al]) []:=aY.push (B':=w1.heap.size) ⟨mu.out.frame (fun b hb=>by cases hb) (by simp;omega),List.nodup_nil,(fun b hb=>by cases hb),(fun b hb=>by cases hb)⟩ (am.dy (Q8 w4 y (len8 hy.1) (len8 hy.2.1) pC)) (Nat.le_refl _) (fun b hb=>by cases hb);obtain ⟨A5,c5,G5,fT,fH⟩:=am.oJ (α:=iU) (xs:=xs++[y]) Pq xm (fun g _ hm=>by cases hm);rw [dB] at fT;simp only [Value.slice.injEq,true_and] at fT;obtain ⟨rfl,rfl⟩:=fT
   have HS:=aJN (xs++[y]) A4 c4 G5 w4 fH.rd J (fun l hl=>by
    rcases List.mem_append.1 hl with hl | hl
    ·have h1:=Bq (f:=iU.wt) hl;have h2:iU.wt l = l.key.size+l.value.size:=rfl;have:=Du.out;omega
    ·rw [List.mem_singleton] at hl;subst hl;omega)
   rw [dB] at HS;have gS:=I (gc.out.aM bO J);have kB:=I (gz.out.Qx bO si.out);have GG:=I (CD.out.br fun g hg=>bO.block g (vc.out g hg));have nQ:=I (nA.out.oT bO J);have jN:=I (fun h=>azE (azD (xs:=xs++[y]) h));have PJ:=bO.size;clear fH xm ev mr bO ed b8 sj mu gH py fN RZ mI oB gc gz nA si;refine HS.mono ?_;clear HS;generalize Fq (xs++[y]) = R at *;exact y8
  ·exact uk
theorem aBY (w:World) (c:Nat) (A:Option Addr) (n aL:Nat) (h:cr w c A n aL) :
 Calls Tryz.prog 194 #[.pointer (some ⟨c,0,none⟩)] w fun e w'=>∃(xs:List iU) (A':Option Addr) (c':Nat) (G:List Nat),e = .returned (.slice A' xs.length c')∧am w' w.heap.size xs [.slice A' xs.length c'] G∧kL iU.wt xs≤204∧cr w' c A n aL∧nN [c] w w' :=
 (aBX w c A n aL h).mono fun _ _ ⟨xs,A',c',G,a,b,d,e,f,_⟩=>⟨xs,A',c',G,a,b,d,e,f⟩
theorem aBo {xs:List bH} (h:(j' xs).2 = true):Ya (j' xs).1 = true:=by
 unfold j' at h ⊢;exact zZ
theorem ayH (w:World) (c:Nat) (A:Option Addr) (n aL:Nat) (h:cr w c A n aL) :
 Calls Tryz.prog 193 #[.pointer (some ⟨c,0,none⟩)] w fun e w'=>∃(xs:List bH) (A':Option Addr) (c':Nat) (G:List Nat),e = .returned (.slice A' xs.length c')∧am w' w.heap.size xs [.slice A' xs.length c'] G∧kL bH.wt xs≤204∧cr w' c A n aL∧nN [c] w w'∧eI w' w.heap.size 91 4 A' c':=by
 have ap:=h.lt;have HC:=I h;clear h;go_enter Tryz.func193,Tryz.ntmps193;go_wp2_with fail
 go_loopw [3,4] (fun v i wr=>∃(xs:List bH) (A':Option Addr) (c':Nat) (G:List Nat) (k:Nat),v = .slice A' xs.length c'∧i = .int .i64 k∧(k:Int)≤2∧am wr w.heap.size xs [.slice A' xs.length c'] G∧Hid (kL bH.wt xs≤204)∧cr wr c A n aL∧nN [c] w wr∧Hid (eI wr w.heap.size 91 4 A' c')) (fun _ i _=>2 - (intOf i).toNat)
 case atStart =>obtain ⟨A',c',G,hv,hO⟩:=am.oJ (α:=bH) (D9 w 91 4 w.heap.size rfl) (aY.nil _ _) (fun g _ hm=>by cases hm);simp only [Value.slice.injEq,List.length_nil] at hv;obtain ⟨rfl,_,rfl⟩:=hv;exact ⟨[],_,_,G,0,rfl,rfl,J,hO,I (Nat.zero_le _),HC.out.ext (ak (aj _) _),nN.lq _ (ak (aj _) _),I (eI.oJ (D9 w 91 4 w.heap.size rfl) (Nat.le_refl _))⟩
 case round =>
  obtain ⟨xs,A',c',G,k,rfl,rfl,hk,hO,Du,hcur,hur,lz⟩:=hrel;have HO:=I hO;have sf:=I hcur;have sg:=I hur;have ot:=hur.size;have Qy:(xs.length:Int)≤204:=by have h1:=gJ bH.wt xs;have:=Du.out;omega
  clear hO hcur hur;go_wp2_with fail
  refine (lO 3 J _ c A n aL sf.out).mono ?_;rintro e w1 ⟨r,rfl,hr,H1,hu1⟩;have gH:=I (HO.out.drawn hu1 ap);have py:=I (sg.out.trans hu1);have pA:=I (lz.out.drawn hu1 ap);have cQ:=hu1.size;have fN:=I H1;clear H1 hu1 HO sf sg lz;by_cases hkr:(k:Int) < r
  ·have si:=I gH.out.lt;have vc:=I pA.out.lt;have da:=fN.out.lt
   go_wp2_with (
    at_builtin
    go_must (refine rW qC X X _ _ X (w1.alloc (.cells #[] 91)) w1.heap.size _ 0 [] (D9 w1 91 4 w1.heap.size rfl) X xs A' c' G ((show Sl w1 xs A' c' G from gH.out.rd).ext (ak (aj _) _)) X J J S' ?_)
    intro v2 w2 ds G2 dq bv aR hg cI;go_must (obtain ⟨A2,c2,eE⟩:=mY aR)
    go_must (subst eE)
    go_must (have av:Below w1.heap.size w1 w2:=lS (World.ownsRow_made (e:=91) (size:=4) w1 #[] 0 (Nat.le_refl _) (Nat.zero_le _) S') hg (ak (aj _) _) S'))
   simp only [Nat.zero_add,List.nil_append] at aR;try simp only [Nat.zero_add]
   obtain rfl:=K2 (fun hh=>(jv hh).2.1) dq;have mu:=I dq;have oB:=I (fN.out.ext av);have RZ:=I (gH.out.ext av);have CC:=I (pA.out.ext av);have mI:=I (py.out.oT av J);have cD:=av.size;have sj:=I aR;clear dq bv aR hg cI av;refine (azF _ c A n aL oB.out).mono ?_;rintro e w3 ⟨y,rfl,hy,H3,b8⟩;have gc:=I H3;clear H3;have gz:=I (RZ.out.drawn b8 ap);have CD:=I (CC.out.drawn b8 ap);have nA:=I (mI.out.trans b8);have ed:=rQ sj.out b8 (show c < w1.heap.size by omega);have eK:=b8.size;have nB:w1.heap.size≤w3.heap.size:=J
   go_wp2_with (
    at_builtin
    go_must (refine lC qC X _ _ X _ _ _ _ _ ed X [.string y.key,.bool y.equal,.string y.value,.int .i64 y.al] jS X eu J J nB ?_)
    intro v4 w4 ev mr Wy;go_must (obtain ⟨A4,c4,hv4⟩:=mY ev)
    go_must (subst hv4)
    go_must (have bO:Below w1.heap.size w3 w4:=lS ed mr (Below.refl _ _) nB))
   have dB:(xs++[y]).length = xs.length+1:=S';have xm:aY w4 w1.heap.size (xs++[y]) (ds++[.string y.key,.bool y.equal,.string y.value,.int .i64 y.al]) []:=aY.push (B':=w1.heap.size) ⟨mu.out.frame (fun b hb=>by cases hb) (by simp;omega),List.nodup_nil,(fun b hb=>by cases hb),(fun b hb=>by cases hb)⟩ (am.dy (Ov w4 y (len8 hy.1) (len8 hy.2.1) pC)) (Nat.le_refl _) (fun b hb=>by cases hb);obtain ⟨A5,c5,G5,fT,fH⟩:=am.oJ (α:=bH) (xs:=xs++[y]) Pq xm (fun g _ hm=>by cases hm);rw [dB] at fT;simp only [Value.slice.injEq,true_and] at fT;obtain ⟨rfl,rfl⟩:=fT
   have HS:=aIV (xs++[y]) A4 c4 G5 w4 fH.rd J (fun l hl=>by
    rcases List.mem_append.1 hl with hl | hl
    ·have h1:=Bq (f:=bH.wt) hl;have h2:bH.wt l = l.key.size+l.value.size:=rfl;have:=Du.out;omega
    ·rw [List.mem_singleton] at hl;subst hl;omega)
   rw [dB] at HS;have gS:=I (gc.out.aM bO J);have kB:=I (gz.out.Qx bO si.out);have GG:=I (CD.out.br fun g hg=>bO.block g (vc.out g hg));have nQ:=I (nA.out.oT bO J);have jN:=I (fun h=>aBZ (aBo (xs:=xs++[y]) h));have PJ:=bO.size;clear fH xm ev mr bO ed b8 sj mu gH py fN RZ mI oB gc gz nA si;refine HS.mono ?_;clear HS;generalize j' (xs++[y]) = R at *;exact y8
  ·exact uk
theorem aJO (w:World) (c:Nat) (A:Option Addr) (n aL:Nat) (h:cr w c A n aL) :
 Calls Tryz.prog 193 #[.pointer (some ⟨c,0,none⟩)] w fun e w'=>∃(xs:List bH) (A':Option Addr) (c':Nat) (G:List Nat),e = .returned (.slice A' xs.length c')∧am w' w.heap.size xs [.slice A' xs.length c'] G∧kL bH.wt xs≤204∧cr w' c A n aL∧nN [c] w w' :=
 (ayH w c A n aL h).mono fun _ _ ⟨xs,A',c',G,a,b,d,e,f,_⟩=>⟨xs,A',c',G,a,b,d,e,f⟩
theorem azG {xs:List ao} (h:(BG xs).2 = true):sD (BG xs).1 = true:=by
 unfold BG at h ⊢;exact zZ
theorem aB0 (w:World) (c:Nat) (A:Option Addr) (n aL:Nat) (h:cr w c A n aL) :
 Calls Tryz.prog 190 #[.pointer (some ⟨c,0,none⟩)] w fun e w'=>∃(xs:List ao) (A':Option Addr) (c':Nat) (G:List Nat),e = .returned (.slice A' xs.length c')∧am w' w.heap.size xs [.slice A' xs.length c'] G∧kL ao.wt xs≤306∧cr w' c A n aL∧nN [c] w w'∧eI w' w.heap.size 57 2 A' c':=by
 have ap:=h.lt;have HC:=I h;clear h;go_enter Tryz.func190,Tryz.ntmps190;go_wp2_with fail
 go_loopw [3,4] (fun v i wr=>∃(xs:List ao) (A':Option Addr) (c':Nat) (G:List Nat) (k:Nat),v = .slice A' xs.length c'∧i = .int .i64 k∧(k:Int)≤3∧am wr w.heap.size xs [.slice A' xs.length c'] G∧Hid (kL ao.wt xs≤306)∧cr wr c A n aL∧nN [c] w wr∧Hid (eI wr w.heap.size 57 2 A' c')) (fun _ i _=>3 - (intOf i).toNat)
 case atStart =>obtain ⟨A',c',G,hv,hO⟩:=am.oJ (α:=ao) (D9 w 57 2 w.heap.size rfl) (aY.nil _ _) (fun g _ hm=>by cases hm);simp only [Value.slice.injEq,List.length_nil] at hv;obtain ⟨rfl,_,rfl⟩:=hv;exact ⟨[],_,_,G,0,rfl,rfl,J,hO,I (Nat.zero_le _),HC.out.ext (ak (aj _) _),nN.lq _ (ak (aj _) _),I (eI.oJ (D9 w 57 2 w.heap.size rfl) (Nat.le_refl _))⟩
 case round =>
  obtain ⟨xs,A',c',G,k,rfl,rfl,hk,hO,Du,hcur,hur,lz⟩:=hrel;have HO:=I hO;have sf:=I hcur;have sg:=I hur;have ot:=hur.size;have Qy:(xs.length:Int)≤306:=by have h1:=gJ ao.wt xs;have:=Du.out;omega
  clear hO hcur hur;go_wp2_with fail
  refine (lO 4 J _ c A n aL sf.out).mono ?_;rintro e w1 ⟨r,rfl,hr,H1,hu1⟩;have gH:=I (HO.out.drawn hu1 ap);have py:=I (sg.out.trans hu1);have pA:=I (lz.out.drawn hu1 ap);have cQ:=hu1.size;have fN:=I H1;clear H1 hu1 HO sf sg lz;by_cases hkr:(k:Int) < r
  ·have si:=I gH.out.lt;have vc:=I pA.out.lt;have da:=fN.out.lt
   go_wp2_with (
    at_builtin
    go_must (refine rW qF X X _ _ X (w1.alloc (.cells #[] 57)) w1.heap.size _ 0 [] (D9 w1 57 2 w1.heap.size rfl) X xs A' c' G ((show Sl w1 xs A' c' G from gH.out.rd).ext (ak (aj _) _)) X J J S' ?_)
    intro v2 w2 ds G2 dq bv aR hg cI;go_must (obtain ⟨A2,c2,eE⟩:=mY aR)
    go_must (subst eE)
    go_must (have av:Below w1.heap.size w1 w2:=lS (World.ownsRow_made (e:=57) (size:=2) w1 #[] 0 (Nat.le_refl _) (Nat.zero_le _) S') hg (ak (aj _) _) S'))
   simp only [Nat.zero_add,List.nil_append] at aR;try simp only [Nat.zero_add]
   obtain rfl:=K2 (fun hh=>(vO hh).2.1) dq;have mu:=I dq;have oB:=I (fN.out.ext av);have RZ:=I (gH.out.ext av);have CC:=I (pA.out.ext av);have mI:=I (py.out.oT av J);have cD:=av.size;have sj:=I aR;clear dq bv aR hg cI av;refine (Qg _ c A n aL oB.out).mono ?_;rintro e wa ⟨s1,rfl,cJ,Ha,hua⟩;have HCA:=I Ha;clear Ha;go_wp2_with fail
   refine (Qh _ c A n aL HCA.out).mono ?_;rintro e w3 ⟨s2,rfl,cE,H3,Pt⟩;have b8:nN [c] w2 w3:=hua.trans Pt;have gc:=I H3;clear H3 HCA hua Pt;obtain ⟨y,rfl,rfl⟩:∃y:ao,s1 = y.key∧s2 = y.value:=⟨⟨s1,s2⟩,rfl,rfl⟩;have hy:=And.intro cJ cE;have gz:=I (RZ.out.drawn b8 ap);have CD:=I (CC.out.drawn b8 ap);have nA:=I (mI.out.trans b8);have ed:=rQ sj.out b8 (show c < w1.heap.size by omega);have eK:=b8.size;have nB:w1.heap.size≤w3.heap.size:=J
   go_wp2_with (
    at_builtin
    go_must (refine lC qF X _ _ X _ _ _ _ _ ed X [.string y.key,.string y.value] jS X eu J J nB ?_)
    intro v4 w4 ev mr Wy;go_must (obtain ⟨A4,c4,hv4⟩:=mY ev)
    go_must (subst hv4)
    go_must (have bO:Below w1.heap.size w3 w4:=lS ed mr (Below.refl _ _) nB))
   have dB:(xs++[y]).length = xs.length+1:=S';have xm:aY w4 w1.heap.size (xs++[y]) (ds++[.string y.key,.string y.value]) []:=aY.push (B':=w1.heap.size) ⟨mu.out.frame (fun b hb=>by cases hb) (by simp;omega),List.nodup_nil,(fun b hb=>by cases hb),(fun b hb=>by cases hb)⟩ (am.dy (Ss w4 y (len8 hy.1) (len8 hy.2))) (Nat.le_refl _) (fun b hb=>by cases hb);obtain ⟨A5,c5,G5,fT,fH⟩:=am.oJ (α:=ao) (xs:=xs++[y]) Pq xm (fun g _ hm=>by cases hm);rw [dB] at fT;simp only [Value.slice.injEq,true_and] at fT;obtain ⟨rfl,rfl⟩:=fT
   have HS:=aJP (xs++[y]) A4 c4 G5 w4 fH.rd J (fun l hl=>by
    rcases List.mem_append.1 hl with hl | hl
    ·have h1:=Bq (f:=ao.wt) hl;have h2:ao.wt l = l.key.size+l.value.size:=rfl;have:=Du.out;omega
    ·rw [List.mem_singleton] at hl;subst hl;omega)
   rw [dB] at HS;have gS:=I (gc.out.aM bO J);have kB:=I (gz.out.Qx bO si.out);have GG:=I (CD.out.br fun g hg=>bO.block g (vc.out g hg));have nQ:=I (nA.out.oT bO J);have jN:=I (fun h=>Uy (azG (xs:=xs++[y]) h));have PJ:=bO.size;clear fH xm ev mr bO ed b8 sj mu gH py fN RZ mI oB gc gz nA si;refine HS.mono ?_;clear HS;generalize BG (xs++[y]) = R at *;obtain ⟨u,b⟩:=R;rintro e w5 ⟨A6,c6,G6,rfl,iD,dv,Jg⟩;have jb:=I (gS.out.ext dv);have qm:=I (kB.out.ext dv);have Yw:=I (GG.out.ext dv);replace Jg:=I Jg;have sH:=I (nQ.out.oT dv J);replace iD:=I (iD.mono (B':=w.heap.size) J);have RC:(k:Int)+1≤3:=J;exact GH
  ·exact uk
theorem ays (w:World) (c:Nat) (A:Option Addr) (n aL:Nat) (h:cr w c A n aL) :
 Calls Tryz.prog 190 #[.pointer (some ⟨c,0,none⟩)] w fun e w'=>∃(xs:List ao) (A':Option Addr) (c':Nat) (G:List Nat),e = .returned (.slice A' xs.length c')∧am w' w.heap.size xs [.slice A' xs.length c'] G∧kL ao.wt xs≤306∧cr w' c A n aL∧nN [c] w w' :=
 (aB0 w c A n aL h).mono fun _ _ ⟨xs,A',c',G,a,b,d,e,f,_⟩=>⟨xs,A',c',G,a,b,d,e,f⟩
end Go.Proofs.YtjahcnjmjahbaaaGreat
