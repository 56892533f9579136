/- Draws of words, and of one label, taint, tolerance. No condition. -/
import Derived.Test.YtjahcnjmjahbaaaGreatClusterI
import Derived.Test.YtjahcnjmjahbaaaGreatRankI
namespace Go.Proofs.YtjahcnjmjahbaaaGreat
open Go.ChangeShapes Go.WideShapes Go.ChangeAt Go.RowKit
set_option linter.unusedVariables false
set_option linter.unusedSimpArgs false
set_option maxHeartbeats 4000000
set_option maxRecDepth 100000
theorem Kp (W:World) (e:TypeId) (xs:Array Value) (k:Nat) (u:Value) (h:xs[k]? = some u):(W.alloc (.cells xs e)).cell? ⟨W.heap.size,k,none⟩ = some u:=by
 rw [cell_of_row _ _ _ _ _ _ (heap_alloc_new W _)];exact h
theorem am.drawn {α:Type} [bk α] {w w':World} {B c:Nat} {x:α} {cs:List Value} {F:List Nat} (h:am w B x cs F) (hu:nN [c] w w') (hc:c < B):am w' B x cs F :=
 hu.Sg h (fun b hb hm=>by have:=h.base b hb;rw [List.mem_singleton] at hm;omega)
theorem Qi (w:World) (c:Nat) (A:Option Addr) (n aM:Nat) (h:cB w c A n aM) :
 Calls Tryz.prog 214 #[.pointer (some ⟨c,0,none⟩)] w fun e w'=>∃s:ByteArray,e = .returned (.string s)∧(s.size≤8)∧cB w' c A n aM∧nN [c] w w':=by
 have ap:=h.lt;have HC:=I h;clear h;go_enter Tryz.func214,Tryz.ntmps214;go_wp2_with fail
 refine (Tr (fun s=>s.size≤8) w.heap.size 6 _ O _ c A n aM (HC.out.ext (ak (aj _) _)) O S' (fun k hk=>?_)).mono ?_
 ·exact Kn
 rintro e w1 ⟨s,rfl,hs,H1,hu⟩;replace H1:=I H1;replace hu:=(nN.lq [c] (ak (aj w) _)).trans hu;go_wp2;go_ret
 exact ⟨s,rfl,hs,H1.out,hu⟩
theorem Qj (w:World) (c:Nat) (A:Option Addr) (n aM:Nat) (h:cB w c A n aM) :
 Calls Tryz.prog 215 #[.pointer (some ⟨c,0,none⟩)] w fun e w'=>∃s:ByteArray,e = .returned (.string s)∧(s.size≤8)∧cB w' c A n aM∧nN [c] w w':=by
 have ap:=h.lt;have HC:=I h;clear h;go_enter Tryz.func215,Tryz.ntmps215;go_wp2_with fail
 refine (Tr (fun s=>s.size≤8) w.heap.size 6 _ O _ c A n aM (HC.out.ext (ak (aj _) _)) O S' (fun k hk=>?_)).mono ?_
 ·exact Kn
 rintro e w1 ⟨s,rfl,hs,H1,hu⟩;replace H1:=I H1;replace hu:=(nN.lq [c] (ak (aj w) _)).trans hu;go_wp2;go_ret
 exact ⟨s,rfl,hs,H1.out,hu⟩
theorem aAO (w:World) (c:Nat) (A:Option Addr) (n aM:Nat) (h:cB w c A n aM) :
 Calls Tryz.prog 115 #[.pointer (some ⟨c,0,none⟩)] w fun e w'=>∃s:ByteArray,e = .returned (.string s)∧(s.size≤8∧s≠⟨#[110,111,119,104,101,114,101]⟩)∧cB w' c A n aM∧nN [c] w w':=by
 have ap:=h.lt;have HC:=I h;clear h;go_enter Tryz.func115,Tryz.ntmps115;go_wp2_with fail
 refine (Tr (fun s=>s.size≤8∧s≠⟨#[110,111,119,104,101,114,101]⟩) w.heap.size 7 _ O _ c A n aM (HC.out.ext (ak (aj _) _)) O S' (fun k hk=>?_)).mono ?_
 ·have pj:k = 0∨k = 1∨k = 2∨k = 3∨k = 4∨k = 5∨k = 6:=by omega
  rcases pj with rfl | rfl | rfl | rfl | rfl | rfl | rfl <;> exact ⟨_,Kp _ _ _ _ _ rfl,by decide⟩
 rintro e w1 ⟨s,rfl,hs,H1,hu⟩;replace H1:=I H1;replace hu:=(nN.lq [c] (ak (aj w) _)).trans hu;go_wp2;go_ret
 exact ⟨s,rfl,hs,H1.out,hu⟩
theorem ayu (w:World) (c:Nat) (A:Option Addr) (n aM:Nat) (h:cB w c A n aM) :
 Calls Tryz.prog 191 #[.pointer (some ⟨c,0,none⟩)] w fun e w'=>∃s:Int,e = .returned (.int .i64 s)∧(0≤s∧s≤1024000)∧cB w' c A n aM∧nN [c] w w':=by
 have ap:=h.lt;have HC:=I h;clear h;go_enter Tryz.func191,Tryz.ntmps191;go_wp2_with fail
 refine (Ts (fun s=>0≤s∧s≤1024000) w.heap.size 9 _ O _ c A n aM (HC.out.ext (ak (aj _) _)) O S' (fun k hk=>?_)).mono ?_
 ·have pj:k = 0∨k = 1∨k = 2∨k = 3∨k = 4∨k = 5∨k = 6∨k = 7∨k = 8:=by omega
  rcases pj with rfl | rfl | rfl | rfl | rfl | rfl | rfl | rfl | rfl <;> exact ⟨_,Kp _ _ _ _ _ rfl,O⟩
 rintro e w1 ⟨s,rfl,hs,H1,hu⟩;replace H1:=I H1;replace hu:=(nN.lq [c] (ak (aj w) _)).trans hu;go_wp2;go_ret
 exact ⟨s,rfl,hs,H1.out,hu⟩
theorem nN.new {F:List Nat} {w w1:World} (h:nN F w w1) {b:Nat} (hb:w.heap.size≤b) (i:Nat) (u:Value):nN F w (w1.setCell ⟨b,i,none⟩ u) :=
 ⟨h.os,h.tape,h.output,by simp [World.setCell];exact h.size,fun k hk hn=>(Below.heap_setCell _ _ _ _ bM).trans (h.block k hk hn)⟩
theorem aC9 (w:World) (c:Nat) (A:Option Addr) (n aM:Nat) (h:cB w c A n aM) :
 Calls Tryz.prog 218 #[.pointer (some ⟨c,0,none⟩)] w fun e w'=>∃x:iU,e = .returned (.agg #[.string x.key,.string x.value,.int .i64 x.an])∧(x.key.size≤8∧x.value.size≤8∧1≤x.an∧x.an≤2)∧cB w' c A n aM∧nN [c] w w':=by
 have ap:=h.lt;have HC:=I h;clear h;go_enter Tryz.func218,Tryz.ntmps218;go_wp2_with fail
 refine (Qi _ c A n aM (HC.out.ext (ak (aj _) _))).mono ?_;rintro e w1 ⟨s1,rfl,cW,H1,hu1⟩;replace H1:=I H1;go_wp2_with fail
 refine (Qj _ c A n aM H1.out).mono ?_;rintro e w2 ⟨s2,rfl,cK,H2,dC⟩;replace H2:=I H2;go_wp2_with fail
 refine (l' 2 O _ c A n aM H2.out).mono ?_;rintro e w3 ⟨r,rfl,hr,H3,cY⟩;replace H3:=I H3;have B0:=oG.new w [.string ⟨#[]⟩,.string ⟨#[]⟩,.int .i64 0] 84;have B3:=((B0.cN hu1 O).cN dC O).cN cY O;have q0:=B3.cell (i:=0) rfl;have q1:=B3.cell (i:=1) rfl;have q2:=B3.cell (i:=2) rfl;have f0:=B3.fz 0;have f1:=B3.fz 1;have f2:=B3.fz 2;clear B0 B3;go_wp2;refine bodyPost_ret (v:=.agg #[.string s1,.string s2,.int .i64 (1+r)]) (by simp [results,Tryz.results218,go_sem, *]) rfl ?_;exact ⟨⟨s1,s2,1+r⟩,rfl,⟨cW,cK,by dsimp only;omega,by dsimp only;omega⟩,((H3.out.bX ap 0 _).bX ap 1 _).bX ap 2 _,((((((nN.lq [c] (ak (aj w) _)).trans hu1).trans dC).trans cY).new (Nat.le_refl _) 0 _).new (Nat.le_refl _) 1 _).new (Nat.le_refl _) 2 _⟩
theorem azF (w:World) (c:Nat) (A:Option Addr) (n aM:Nat) (h:cB w c A n aM) :
 Calls Tryz.prog 217 #[.pointer (some ⟨c,0,none⟩)] w fun e w'=>∃x:bH,e = .returned (.agg #[.string x.key,.bool x.equal,.string x.value,.int .i64 x.an])∧(x.key.size≤8∧x.value.size≤8∧0≤x.an∧x.an≤2)∧cB w' c A n aM∧nN [c] w w':=by
 have ap:=h.lt;have HC:=I h;clear h;go_enter Tryz.func217,Tryz.ntmps217;go_wp2_with fail
 refine (Qi _ c A n aM (HC.out.ext (ak (aj _) _))).mono ?_;rintro e w1 ⟨s1,rfl,cW,H1,hu1⟩;replace H1:=I H1;go_wp2_with fail
 refine (l' 3 O _ c A n aM H1.out).mono ?_;rintro e w2 ⟨r,rfl,hr,H2,dC⟩;replace H2:=I H2;have X0:=oG.new w [.string ⟨#[]⟩,.bool false,.string ⟨#[]⟩,.int .i64 0] 91;have X2:=(X0.cN hu1 O).cN dC O;have cM:=hu1.size;have cI:=dC.size;simp at cM;have cb:=H2.out.lt;have U2:=I (((nN.lq [c] (ak (aj w) _)).trans hu1).trans dC);have Y2:=oG.new w2 [.string s1,.bool false,.string ⟨#[]⟩,.int .i64 r] 91;replace X2:=X2.ext (ak (aj _) (.cells [.string s1,.bool false,.string ⟨#[]⟩,.int .i64 r].toArray 91));replace U2:=I (U2.out.alloc (.cells #[.string s1,.bool false,.string ⟨#[]⟩,.int .i64 r] 91));clear X0 hu1 dC;go_wp2_with fail
 refine (CL 2 O _ c A n aM (H2.out.ext (ak (aj _) _))).mono ?_;rintro e w3 ⟨b,rfl,H3,cY⟩;replace H3:=I H3;have X3:=X2.cN cY O;have Y3:=Y2.cN cY O;have U3:=I (U2.out.trans cY);have ez:=cY.size;simp at ez;clear X2 Y2 cY U2;cases b
 ·obtain ⟨M1,aB7,aB8,aB9,aCa,aCb,aCc,aCd⟩:=Eg Y3;go_wp2_with fail
  refine (CL 3 O _ c A n aM H3.out).mono ?_;rintro e w4 ⟨b,rfl,H4,Td⟩;replace H4:=I H4;have X4:=X3.cN Td O;have Y4:=Y3.cN Td O;have U4:=I (U3.out.trans Td);clear M1 aB7 aB8 aB9 aCa aCb aCc aCd;clear X3 Y3 Td U3;obtain ⟨M2,fX4_0,kX4_1,fX4_1,kX4_2,fX4_2,kX4_3,fX4_3⟩:=Eg X4;obtain ⟨TE,aFf,aFg,aFh,aFi,aFj,aFk,aFl⟩:=Eg Y4;cases b
  ·go_wp2;refine bodyPost_ret (v:=.agg #[.string s1,.bool false,.string ⟨#[]⟩,.int .i64 r]) (by simp [results,Tryz.results217,go_sem, *]) rfl ?_;exact ⟨⟨s1,false,⟨#[]⟩,r⟩,rfl,⟨cW,Nat.zero_le _,by dsimp only;omega,by dsimp only;omega⟩,((((H4.out.bX ap 0 _).bX ap 1 _).bX ap 2 _).bX ap 3 _),((((U4.out.new (Nat.le_refl _) 0 _).new (Nat.le_refl _) 1 _).new (Nat.le_refl _) 2 _).new (Nat.le_refl _) 3 _)⟩
  ·go_wp2;refine bodyPost_ret (v:=.agg #[.string ⟨#[]⟩,.bool false,.string ⟨#[]⟩,.int .i64 r]) (by simp [results,Tryz.results217,go_sem, *]) rfl ?_;exact ⟨⟨⟨#[]⟩,false,⟨#[]⟩,r⟩,rfl,⟨Nat.zero_le _,Nat.zero_le _,by dsimp only;omega,by dsimp only;omega⟩,(((((H4.out.bX O 0 _).bX ap 0 _).bX ap 1 _).bX ap 2 _).bX ap 3 _),(((((U4.out.new O 0 _).new (Nat.le_refl _) 0 _).new (Nat.le_refl _) 1 _).new (Nat.le_refl _) 2 _).new (Nat.le_refl _) 3 _)⟩
 ·obtain ⟨M1,aB7,aB8,aB9,aCa,aCb,aCc,aCd⟩:=Eg Y3;go_wp2_with fail
  refine (Qj _ c A n aM (H3.out.bX O 1 _)).mono ?_;rintro e w4 ⟨s2,rfl,cK,H4,Td⟩;replace H4:=I H4;have X4:=(X3.bX O 1 _).cN Td O;have Y4:=(Y3.put 1 _).cN Td O;have U4:=I ((U3.out.new O 1 _).trans Td);clear M1 aB7 aB8 aB9 aCa aCb aCc aCd;clear X3 Y3 Td U3;obtain ⟨M2,fX4_0,kX4_1,fX4_1,kX4_2,fX4_2,kX4_3,fX4_3⟩:=Eg X4;obtain ⟨TE,aFf,aFg,aFh,aFi,aFj,aFk,aFl⟩:=Eg Y4;go_wp2;refine bodyPost_ret (v:=.agg #[.string s1,.bool true,.string s2,.int .i64 r]) (by simp [results,Tryz.results217,go_sem, *]) rfl ?_;exact ⟨⟨s1,true,s2,r⟩,rfl,⟨cW,cK,by dsimp only;omega,by dsimp only;omega⟩,(((((H4.out.bX O 2 _).bX ap 0 _).bX ap 1 _).bX ap 2 _).bX ap 3 _),(((((U4.out.new O 2 _).new (Nat.le_refl _) 0 _).new (Nat.le_refl _) 1 _).new (Nat.le_refl _) 2 _).new (Nat.le_refl _) 3 _)⟩
structure pG (g:Nat) (w w':World):Prop where
 os:w'.os = w.os
 tape:w'.tape = w.tape
 output:w'.output = w.output
 size:w'.heap.size = w.heap.size
 block:∀b,b≠g→w'.heap[b]? = w.heap[b]?
section
variable {P:Program} {w w':World} {g:Nat}
theorem oG.only {b:Nat} {cs:List Value} (h:oG w b cs) (ho:pG g w w') (hb:b≠g):oG w' b cs:=h.bJ (ho.block b hb)
theorem nN.only {F:List Nat} {w0:World} (h:nN F w0 w) (ho:pG g w w') (hg:w0.heap.size≤g):nN F w0 w' :=
 ⟨ho.os.trans h.os,ho.tape.trans h.tape,ho.output.trans h.output,by rw [ho.size];exact h.size,fun i hi hn=>(ho.block i O).trans (h.block i hi hn)⟩
theorem cB.only {c n aM:Nat} {A:Option Addr} (h:cB w c A n aM) (ho:pG g w w') (hg:c < g):cB w' c A n aM:=by
 obtain ⟨⟨i,x,t,h1,h2⟩,h3,h4⟩:=h;refine ⟨⟨i,x,t,(ho.block c O).trans h1,h2⟩,fun k hk=>?_,h4⟩;obtain ⟨q,o,v,e,hq,hv,gb⟩:=h3 k hk;exact ⟨q,o,v,e,hq,(World.cell?_of_block (ho.block q O)).trans hv,gb⟩
theorem am.only {α:Type} [bk α] {B:Nat} {x:α} {cs:List Value} {F:List Nat} (h:am w B x cs F) (ho:pG g w w') (hg:∀b∈F,b≠g):am w' B x cs F :=
 h.bJ (fun b hb=>ho.block b (hg b hb)) (by rw [ho.size];exact Nat.le_refl _)
theorem xw {w0:World} (h:Below w0.heap.size w0 w) (ho:pG g w w') (hg:w0.heap.size≤g):Below w0.heap.size w0 w' :=
 ⟨ho.os.trans h.os,ho.tape.trans h.tape,ho.output.trans h.output,by rw [ho.size];exact h.size,fun i hi=>(ho.block i O).trans (h.block i hi)⟩
theorem oG.xr (w:World) (a b:Obj) (cs:List Value) (t:TypeId):oG (((w.alloc a).alloc b).alloc (.cells cs.toArray t)) (w.heap.size+1+1) cs:=by
 have h:=oG.new ((w.alloc a).alloc b) cs t;have e:((w.alloc a).alloc b).heap.size = w.heap.size+1+1:=by simp
 rw [e] at h;exact h
theorem oG.range {cs:List Value} (h:oG w g cs):w.rangeAt g 0 cs:=fun j v hv=>by
 rw [Nat.zero_add];exact h.cell hv
theorem km {op:Oper} {a:Act} {K:Act→World→Prop} {Q:Exit→Act→World→Prop} (ty:TypeId) (x y:Operand) (ho:op.op = .store ty x y)
 (g o:Nat) (cs old:List Value) (hx:a.eval x = .pointer (some ⟨g,o,none⟩)) (hy:a.eval y = .agg cs.toArray) (hB:oG w g old) (hl:o+cs.length≤old.length)
 (hi:(P.info? ty).map (·.size) = some cs.length) (h1:∀v∈cs,v.oneCell' = true)
 (h:∀w',oG w' g (old.take o++cs++old.drop (o+cs.length))→pG g w w'→K (a.put op.dst undef) w'):op.wp P a w K Q:=by
 obtain ⟨t,hg⟩:=hB;have hr:=run_storeCells_at (P:=P) g o t cs 0 old.toArray w hg (by simpa using hl) h1;have hv:(storeVar ty ⟨g,o,none⟩ (.agg cs.toArray)).run P w = .ok () (w.setRow g (old.take o++cs++old.drop (o+cs.length)).toArray):=by
  cases hq:P.info? ty with
  | none=>simp [hq] at hi
  | some i =>have hs:cs.length = i.size:=(by simp [hq] at hi;omega);simp only [Nat.add_zero,List.toList_toArray] at hr;simp [storeVar,sizeOf,typeInfo,hq,Value.cells,hs,hr]
 unfold Oper.wp execOp;simp only [ho,hx,hy,Instr.storeAt,Instr.sureAddr,Sem.run_bind,Sem.run_pure,Result.andThen_ok,hv];refine h _ ⟨t,setRow_heap w g _ _ t _ hg⟩ ⟨rfl,rfl,rfl,by simp [World.setRow],fun b hb=>?_⟩;simp [World.setRow,Array.getElem?_modify,hb,Ne.symm hb]
theorem BF {op:Oper} {a:Act} {K:Act→World→Prop} {Q:Exit→Act→World→Prop} (ty:TypeId) (x:Operand) (ho:op.op = .load ty x)
 (g:Nat) (cs:List Value) (hx:a.eval x = .pointer (some ⟨g,0,none⟩)) (d:TypeDesc) (hB:oG w g cs) (hu:P.underlying ty = some d) (hd:d.isRow = true) (hi:(P.info? ty).map (·.size) = some cs.length)
 (h:K (a.put op.dst (.agg cs.toArray)) w):op.wp P a w K Q :=
 wp_load_mid ty x ho g 0 hx cs d hB.range hu hd hi h
theorem TH {fn:Func} {p:Tmp} {ty:TypeId} (h:fn.results = #[.cell p ty]) (tmps:Array Value) (g:Nat) (cs:List Value) (d:TypeDesc) (hp:tmps.getD p undef = .pointer (some ⟨g,0,none⟩)) (hB:oG w g cs)
 (hu:P.underlying ty = some d) (hd:(match d with | .struct _ | .array _ _=>true | _=>false) = true) (hi:(P.info? ty).map (·.size) = some cs.length):(results fn tmps).run P w = .ok (.agg cs.toArray) w:=by
 obtain ⟨t,h1⟩:=hB;exact results_cell_row h tmps w g t cs.toArray (0,0) d hp h1 hu hd avv
theorem zK {fn:Func} {p u:Tmp} {ty:TypeId} (h:fn.results = #[.cell p ty,.tmp u]) (tmps:Array Value) (g:Nat) (cs:List Value) (d:TypeDesc) (v:Value) (hp:tmps.getD p undef = .pointer (some ⟨g,0,none⟩)) (hv:tmps.getD u undef = v) (hB:oG w g cs)
 (hu:P.underlying ty = some d) (hd:d.isRow = true) (hi:(P.info? ty).map (·.size) = some cs.length):(results fn tmps).run P w = .ok (.tuple #[.agg cs.toArray,v]) w:=by
 have hr:=run_loadVar_mid (P:=P) w g 0 ty cs d hB.range hu hd hi;have Mf:tmps[p]?.getD undef = .pointer (some ⟨g,0,none⟩):=by simpa using hp
 have hv':tmps[u]?.getD undef = v:=by simpa using hv
 simp [results,h,Mf,hv',asAddr,hr]
end
theorem len8 {s:ByteArray} (h:s.size≤8):s.size≤maxLen:=by unfold maxLen;omega
theorem cB.aL {w w':World} {c n aM B:Nat} {A:Option Addr} (h:cB w c A n aM) (hb:Below B w w') (hc:c < B):cB w' c A n aM:=by
 obtain ⟨⟨i,x,t,h1,h2⟩,h3,h4⟩:=h;refine ⟨⟨i,x,t,(hb.block c hc).trans h1,h2⟩,fun k hk=>?_,h4⟩;obtain ⟨g,o,v,e,hg,hv,gb⟩:=h3 k hk;exact ⟨g,o,v,e,hg,(World.cell?_of_block (hb.block g O)).trans hv,gb⟩
theorem nN.pb {F:List Nat} {w w1 w2:World} {B:Nat} (h:nN F w w1) (hb:Below B w1 w2) (hB:w.heap.size≤B):nN F w w2 :=
 ⟨hb.os.trans h.os,hb.tape.trans h.tape,hb.output.trans h.output,Nat.le_trans h.size hb.size,fun i hi hn=>(hb.block i O).trans (h.block i hi hn)⟩
theorem am.Qy {α:Type} [bk α] {w w':World} {B B2:Nat} {x:α} {cs:List Value} {F:List Nat} (h:am w B x cs F) (hb:Below B2 w w') (hF:∀b∈F,b < B2):am w' B x cs F :=
 h.bJ (fun b hm=>hb.block b (hF b hm)) hb.size
theorem azD {xs:List iU} (h:(Fq xs).2 = true):La (Fq xs).1 = true:=by
 unfold Fq at h ⊢;exact Bt
theorem aBX (w:World) (c:Nat) (A:Option Addr) (n aM:Nat) (h:cB w c A n aM) :
 Calls Tryz.prog 194 #[.pointer (some ⟨c,0,none⟩)] w fun e w'=>∃(xs:List iU) (A':Option Addr) (c':Nat) (G:List Nat),e = .returned (.slice A' xs.length c')∧am w' w.heap.size xs [.slice A' xs.length c'] G∧kL iU.wt xs≤204∧cB w' c A n aM∧nN [c] w w'∧eV w' w.heap.size 84 3 A' c':=by
 have ap:=h.lt;have HC:=I h;clear h;go_enter Tryz.func194,Tryz.ntmps194;go_wp2_with fail
 go_loopw [3,4] (fun v i wr=>∃(xs:List iU) (A':Option Addr) (c':Nat) (G:List Nat) (k:Nat),v = .slice A' xs.length c'∧i = .int .i64 k∧(k:Int)≤2∧am wr w.heap.size xs [.slice A' xs.length c'] G∧Hid (kL iU.wt xs≤204)∧cB wr c A n aM∧nN [c] w wr∧Hid (eV wr w.heap.size 84 3 A' c')) (fun _ i _=>2 - (intOf i).toNat)
 case atStart =>obtain ⟨A',c',G,hv,hO⟩:=am.oJ (α:=iU) (D9 w 84 3 w.heap.size rfl) (aY.nil _ _) (fun g _ hm=>by cases hm);simp only [Value.slice.injEq,List.length_nil] at hv;obtain ⟨rfl,_,rfl⟩:=hv;exact ⟨[],_,_,G,0,rfl,rfl,O,hO,I (Nat.zero_le _),HC.out.ext (ak (aj _) _),nN.lq _ (ak (aj _) _),I (eV.oJ (D9 w 84 3 w.heap.size rfl) (Nat.le_refl _))⟩
 case round =>
  obtain ⟨xs,A',c',G,k,rfl,rfl,hk,hO,Du,hcur,hur,lW⟩:=hrel;have HO:=I hO;have tj:=I hcur;have tk:=I hur;have px:=hur.size;have Vi:(xs.length:Int)≤204:=by have h1:=gJ iU.wt xs;have:=Du.out;omega
  clear hO hcur hur;go_wp2_with fail
  refine (l' 3 O _ c A n aM tj.out).mono ?_;rintro e w1 ⟨r,rfl,hr,H1,hu1⟩;have gP:=I (HO.out.drawn hu1 ap);have qk:=I (tk.out.trans hu1);have qm:=I (lW.out.drawn hu1 ap);have cM:=hu1.size;have fv:=I H1;clear H1 hu1 HO tj tk lW;by_cases m':(k:Int) < r
  ·have tm:=I gP.out.lt;have gO:=I qm.out.lt;have db:=fv.out.lt
   go_wp2_with (
    at_builtin
    go_must (refine rW rY Z Z _ _ Z (w1.alloc (.cells #[] 84)) w1.heap.size _ 0 [] (D9 w1 84 3 w1.heap.size rfl) Z xs A' c' G ((show Sl w1 xs A' c' G from gP.out.rd).ext (ak (aj _) _)) Z O O S' ?_)
    intro v2 w2 ds G2 cJ br aR hg cL;go_must (obtain ⟨A2,c2,eN⟩:=mY aR)
    go_must (subst eN)
    go_must (have ao:Below w1.heap.size w1 w2:=lS (World.ownsRow_made (e:=84) (size:=3) w1 #[] 0 (Nat.le_refl _) (Nat.zero_le _) S') hg (ak (aj _) _) S'))
   simp only [Nat.zero_add,List.nil_append] at aR;try simp only [Nat.zero_add]
   obtain rfl:=Mi (fun hh=>(oK hh).2.1) cJ;have mA:=I cJ;have oX:=I (fv.out.ext ao);have RZ:=I (gP.out.ext ao);have Dl:=I (qm.out.ext ao);have ma:=I (qk.out.pb ao O);have cI:=ao.size;have tp:=I aR;clear cJ br aR hg cL ao;refine (aC9 _ c A n aM oX.out).mono ?_;rintro e w3 ⟨y,rfl,hy,H3,cY⟩;have gL:=I H3;clear H3;have fG:=I (RZ.out.drawn cY ap);have Dm:=I (Dl.out.drawn cY ap);have nZ:=I (ma.out.trans cY);have d8:=rQ tp.out cY (show c < w1.heap.size by omega);have ez:=cY.size;have oa:w1.heap.size≤w3.heap.size:=O
   go_wp2_with (
    at_builtin
    go_must (refine lC rY Z _ _ Z _ _ _ _ _ d8 Z [.string y.key,.string y.value,.int .i64 y.an] ly Z e' O O oa ?_)
    intro v4 w4 eK nJ Wy;go_must (obtain ⟨A4,c4,hv4⟩:=mY eK)
    go_must (subst hv4)
    go_must (have bL:Below w1.heap.size w3 w4:=lS d8 nJ (Below.refl _ _) oa))
   have fN:(xs++[y]).length = xs.length+1:=S';have yr:aY w4 w1.heap.size (xs++[y]) (ds++[.string y.key,.string y.value,.int .i64 y.an]) []:=aY.push (B':=w1.heap.size) ⟨mA.out.frame (fun b hb=>by cases hb) (by simp;omega),List.nodup_nil,(fun b hb=>by cases hb),(fun b hb=>by cases hb)⟩ (am.en (Q8 w4 y (len8 hy.1) (len8 hy.2.1) tU)) (Nat.le_refl _) (fun b hb=>by cases hb);obtain ⟨A5,c5,G5,gM,fH⟩:=am.oJ (α:=iU) (xs:=xs++[y]) PE yr (fun g _ hm=>by cases hm);rw [fN] at gM;simp only [Value.slice.injEq,true_and] at gM;obtain ⟨rfl,rfl⟩:=gM
   have HS:=Z7 (xs++[y]) A4 c4 G5 w4 fH.rd O (fun l hl=>by
    rcases List.mem_append.1 hl with hl | hl
    ·have h1:=Bq (f:=iU.wt) hl;have h2:iU.wt l = l.key.size+l.value.size:=rfl;have:=Du.out;omega
    ·rw [List.mem_singleton] at hl;subst hl;omega)
   rw [fN] at HS;have ix:=I (gL.out.aL bL O);have kR:=I (fG.out.Qy bL tm.out);have Hc:=I (Dm.out.bJ fun g hg=>bL.block g (gO.out g hg));have ot:=I (nZ.out.pb bL O);have kq:=I (fun h=>azE (azD (xs:=xs++[y]) h));have Mp:=bL.size;clear fH yr eK nJ bL d8 cY tp mA gP qk fv RZ ma oX gL fG nZ tm;refine HS.mono ?_;clear HS;generalize Fq (xs++[y]) = R at *;exact AG
  ·exact vp
theorem aBY (w:World) (c:Nat) (A:Option Addr) (n aM:Nat) (h:cB w c A n aM) :
 Calls Tryz.prog 194 #[.pointer (some ⟨c,0,none⟩)] w fun e w'=>∃(xs:List iU) (A':Option Addr) (c':Nat) (G:List Nat),e = .returned (.slice A' xs.length c')∧am w' w.heap.size xs [.slice A' xs.length c'] G∧kL iU.wt xs≤204∧cB w' c A n aM∧nN [c] w w' :=
 (aBX w c A n aM h).mono fun _ _ ⟨xs,A',c',G,a,b,d,e,f,_⟩=>⟨xs,A',c',G,a,b,d,e,f⟩
theorem aBo {xs:List bH} (h:(kw xs).2 = true):Ya (kw xs).1 = true:=by
 unfold kw at h ⊢;exact Bt
theorem ayH (w:World) (c:Nat) (A:Option Addr) (n aM:Nat) (h:cB w c A n aM) :
 Calls Tryz.prog 193 #[.pointer (some ⟨c,0,none⟩)] w fun e w'=>∃(xs:List bH) (A':Option Addr) (c':Nat) (G:List Nat),e = .returned (.slice A' xs.length c')∧am w' w.heap.size xs [.slice A' xs.length c'] G∧kL bH.wt xs≤204∧cB w' c A n aM∧nN [c] w w'∧eV w' w.heap.size 91 4 A' c':=by
 have ap:=h.lt;have HC:=I h;clear h;go_enter Tryz.func193,Tryz.ntmps193;go_wp2_with fail
 go_loopw [3,4] (fun v i wr=>∃(xs:List bH) (A':Option Addr) (c':Nat) (G:List Nat) (k:Nat),v = .slice A' xs.length c'∧i = .int .i64 k∧(k:Int)≤2∧am wr w.heap.size xs [.slice A' xs.length c'] G∧Hid (kL bH.wt xs≤204)∧cB wr c A n aM∧nN [c] w wr∧Hid (eV wr w.heap.size 91 4 A' c')) (fun _ i _=>2 - (intOf i).toNat)
 case atStart =>obtain ⟨A',c',G,hv,hO⟩:=am.oJ (α:=bH) (D9 w 91 4 w.heap.size rfl) (aY.nil _ _) (fun g _ hm=>by cases hm);simp only [Value.slice.injEq,List.length_nil] at hv;obtain ⟨rfl,_,rfl⟩:=hv;exact ⟨[],_,_,G,0,rfl,rfl,O,hO,I (Nat.zero_le _),HC.out.ext (ak (aj _) _),nN.lq _ (ak (aj _) _),I (eV.oJ (D9 w 91 4 w.heap.size rfl) (Nat.le_refl _))⟩
 case round =>
  obtain ⟨xs,A',c',G,k,rfl,rfl,hk,hO,Du,hcur,hur,lW⟩:=hrel;have HO:=I hO;have tj:=I hcur;have tk:=I hur;have px:=hur.size;have Vi:(xs.length:Int)≤204:=by have h1:=gJ bH.wt xs;have:=Du.out;omega
  clear hO hcur hur;go_wp2_with fail
  refine (l' 3 O _ c A n aM tj.out).mono ?_;rintro e w1 ⟨r,rfl,hr,H1,hu1⟩;have gP:=I (HO.out.drawn hu1 ap);have qk:=I (tk.out.trans hu1);have qm:=I (lW.out.drawn hu1 ap);have cM:=hu1.size;have fv:=I H1;clear H1 hu1 HO tj tk lW;by_cases m':(k:Int) < r
  ·have tm:=I gP.out.lt;have gO:=I qm.out.lt;have db:=fv.out.lt
   go_wp2_with (
    at_builtin
    go_must (refine rW rU Z Z _ _ Z (w1.alloc (.cells #[] 91)) w1.heap.size _ 0 [] (D9 w1 91 4 w1.heap.size rfl) Z xs A' c' G ((show Sl w1 xs A' c' G from gP.out.rd).ext (ak (aj _) _)) Z O O S' ?_)
    intro v2 w2 ds G2 cJ br aR hg cL;go_must (obtain ⟨A2,c2,eN⟩:=mY aR)
    go_must (subst eN)
    go_must (have ao:Below w1.heap.size w1 w2:=lS (World.ownsRow_made (e:=91) (size:=4) w1 #[] 0 (Nat.le_refl _) (Nat.zero_le _) S') hg (ak (aj _) _) S'))
   simp only [Nat.zero_add,List.nil_append] at aR;try simp only [Nat.zero_add]
   obtain rfl:=Mi (fun hh=>(jv hh).2.1) cJ;have mA:=I cJ;have oX:=I (fv.out.ext ao);have RZ:=I (gP.out.ext ao);have Dl:=I (qm.out.ext ao);have ma:=I (qk.out.pb ao O);have cI:=ao.size;have tp:=I aR;clear cJ br aR hg cL ao;refine (azF _ c A n aM oX.out).mono ?_;rintro e w3 ⟨y,rfl,hy,H3,cY⟩;have gL:=I H3;clear H3;have fG:=I (RZ.out.drawn cY ap);have Dm:=I (Dl.out.drawn cY ap);have nZ:=I (ma.out.trans cY);have d8:=rQ tp.out cY (show c < w1.heap.size by omega);have ez:=cY.size;have oa:w1.heap.size≤w3.heap.size:=O
   go_wp2_with (
    at_builtin
    go_must (refine lC rU Z _ _ Z _ _ _ _ _ d8 Z [.string y.key,.bool y.equal,.string y.value,.int .i64 y.an] ly Z e' O O oa ?_)
    intro v4 w4 eK nJ Wy;go_must (obtain ⟨A4,c4,hv4⟩:=mY eK)
    go_must (subst hv4)
    go_must (have bL:Below w1.heap.size w3 w4:=lS d8 nJ (Below.refl _ _) oa))
   have fN:(xs++[y]).length = xs.length+1:=S';have yr:aY w4 w1.heap.size (xs++[y]) (ds++[.string y.key,.bool y.equal,.string y.value,.int .i64 y.an]) []:=aY.push (B':=w1.heap.size) ⟨mA.out.frame (fun b hb=>by cases hb) (by simp;omega),List.nodup_nil,(fun b hb=>by cases hb),(fun b hb=>by cases hb)⟩ (am.en (Ov w4 y (len8 hy.1) (len8 hy.2.1) tU)) (Nat.le_refl _) (fun b hb=>by cases hb);obtain ⟨A5,c5,G5,gM,fH⟩:=am.oJ (α:=bH) (xs:=xs++[y]) PE yr (fun g _ hm=>by cases hm);rw [fN] at gM;simp only [Value.slice.injEq,true_and] at gM;obtain ⟨rfl,rfl⟩:=gM
   have HS:=aIV (xs++[y]) A4 c4 G5 w4 fH.rd O (fun l hl=>by
    rcases List.mem_append.1 hl with hl | hl
    ·have h1:=Bq (f:=bH.wt) hl;have h2:bH.wt l = l.key.size+l.value.size:=rfl;have:=Du.out;omega
    ·rw [List.mem_singleton] at hl;subst hl;omega)
   rw [fN] at HS;have ix:=I (gL.out.aL bL O);have kR:=I (fG.out.Qy bL tm.out);have Hc:=I (Dm.out.bJ fun g hg=>bL.block g (gO.out g hg));have ot:=I (nZ.out.pb bL O);have kq:=I (fun h=>aBZ (aBo (xs:=xs++[y]) h));have Mp:=bL.size;clear fH yr eK nJ bL d8 cY tp mA gP qk fv RZ ma oX gL fG nZ tm;refine HS.mono ?_;clear HS;generalize kw (xs++[y]) = R at *;exact AG
  ·exact vp
theorem aJO (w:World) (c:Nat) (A:Option Addr) (n aM:Nat) (h:cB w c A n aM) :
 Calls Tryz.prog 193 #[.pointer (some ⟨c,0,none⟩)] w fun e w'=>∃(xs:List bH) (A':Option Addr) (c':Nat) (G:List Nat),e = .returned (.slice A' xs.length c')∧am w' w.heap.size xs [.slice A' xs.length c'] G∧kL bH.wt xs≤204∧cB w' c A n aM∧nN [c] w w' :=
 (ayH w c A n aM h).mono fun _ _ ⟨xs,A',c',G,a,b,d,e,f,_⟩=>⟨xs,A',c',G,a,b,d,e,f⟩
theorem azG {xs:List aD} (h:(BG xs).2 = true):sD (BG xs).1 = true:=by
 unfold BG at h ⊢;exact Bt
theorem aB0 (w:World) (c:Nat) (A:Option Addr) (n aM:Nat) (h:cB w c A n aM) :
 Calls Tryz.prog 190 #[.pointer (some ⟨c,0,none⟩)] w fun e w'=>∃(xs:List aD) (A':Option Addr) (c':Nat) (G:List Nat),e = .returned (.slice A' xs.length c')∧am w' w.heap.size xs [.slice A' xs.length c'] G∧kL aD.wt xs≤306∧cB w' c A n aM∧nN [c] w w'∧eV w' w.heap.size 57 2 A' c':=by
 have ap:=h.lt;have HC:=I h;clear h;go_enter Tryz.func190,Tryz.ntmps190;go_wp2_with fail
 go_loopw [3,4] (fun v i wr=>∃(xs:List aD) (A':Option Addr) (c':Nat) (G:List Nat) (k:Nat),v = .slice A' xs.length c'∧i = .int .i64 k∧(k:Int)≤3∧am wr w.heap.size xs [.slice A' xs.length c'] G∧Hid (kL aD.wt xs≤306)∧cB wr c A n aM∧nN [c] w wr∧Hid (eV wr w.heap.size 57 2 A' c')) (fun _ i _=>3 - (intOf i).toNat)
 case atStart =>obtain ⟨A',c',G,hv,hO⟩:=am.oJ (α:=aD) (D9 w 57 2 w.heap.size rfl) (aY.nil _ _) (fun g _ hm=>by cases hm);simp only [Value.slice.injEq,List.length_nil] at hv;obtain ⟨rfl,_,rfl⟩:=hv;exact ⟨[],_,_,G,0,rfl,rfl,O,hO,I (Nat.zero_le _),HC.out.ext (ak (aj _) _),nN.lq _ (ak (aj _) _),I (eV.oJ (D9 w 57 2 w.heap.size rfl) (Nat.le_refl _))⟩
 case round =>
  obtain ⟨xs,A',c',G,k,rfl,rfl,hk,hO,Du,hcur,hur,lW⟩:=hrel;have HO:=I hO;have tj:=I hcur;have tk:=I hur;have px:=hur.size;have Vi:(xs.length:Int)≤306:=by have h1:=gJ aD.wt xs;have:=Du.out;omega
  clear hO hcur hur;go_wp2_with fail
  refine (l' 4 O _ c A n aM tj.out).mono ?_;rintro e w1 ⟨r,rfl,hr,H1,hu1⟩;have gP:=I (HO.out.drawn hu1 ap);have qk:=I (tk.out.trans hu1);have qm:=I (lW.out.drawn hu1 ap);have cM:=hu1.size;have fv:=I H1;clear H1 hu1 HO tj tk lW;by_cases m':(k:Int) < r
  ·have tm:=I gP.out.lt;have gO:=I qm.out.lt;have db:=fv.out.lt
   go_wp2_with (
    at_builtin
    go_must (refine rW r7 Z Z _ _ Z (w1.alloc (.cells #[] 57)) w1.heap.size _ 0 [] (D9 w1 57 2 w1.heap.size rfl) Z xs A' c' G ((show Sl w1 xs A' c' G from gP.out.rd).ext (ak (aj _) _)) Z O O S' ?_)
    intro v2 w2 ds G2 cJ br aR hg cL;go_must (obtain ⟨A2,c2,eN⟩:=mY aR)
    go_must (subst eN)
    go_must (have ao:Below w1.heap.size w1 w2:=lS (World.ownsRow_made (e:=57) (size:=2) w1 #[] 0 (Nat.le_refl _) (Nat.zero_le _) S') hg (ak (aj _) _) S'))
   simp only [Nat.zero_add,List.nil_append] at aR;try simp only [Nat.zero_add]
   obtain rfl:=Mi (fun hh=>(vO hh).2.1) cJ;have mA:=I cJ;have oX:=I (fv.out.ext ao);have RZ:=I (gP.out.ext ao);have Dl:=I (qm.out.ext ao);have ma:=I (qk.out.pb ao O);have cI:=ao.size;have tp:=I aR;clear cJ br aR hg cL ao;refine (Qi _ c A n aM oX.out).mono ?_;rintro e wa ⟨s1,rfl,cW,Ha,hua⟩;have HCA:=I Ha;clear Ha;go_wp2_with fail
   refine (Qj _ c A n aM HCA.out).mono ?_;rintro e w3 ⟨s2,rfl,cK,H3,PH⟩;have cY:nN [c] w2 w3:=hua.trans PH;have gL:=I H3;clear H3 HCA hua PH;obtain ⟨y,rfl,rfl⟩:∃y:aD,s1 = y.key∧s2 = y.value:=⟨⟨s1,s2⟩,rfl,rfl⟩;have hy:=And.intro cW cK;have fG:=I (RZ.out.drawn cY ap);have Dm:=I (Dl.out.drawn cY ap);have nZ:=I (ma.out.trans cY);have d8:=rQ tp.out cY (show c < w1.heap.size by omega);have ez:=cY.size;have oa:w1.heap.size≤w3.heap.size:=O
   go_wp2_with (
    at_builtin
    go_must (refine lC r7 Z _ _ Z _ _ _ _ _ d8 Z [.string y.key,.string y.value] ly Z e' O O oa ?_)
    intro v4 w4 eK nJ Wy;go_must (obtain ⟨A4,c4,hv4⟩:=mY eK)
    go_must (subst hv4)
    go_must (have bL:Below w1.heap.size w3 w4:=lS d8 nJ (Below.refl _ _) oa))
   have fN:(xs++[y]).length = xs.length+1:=S';have yr:aY w4 w1.heap.size (xs++[y]) (ds++[.string y.key,.string y.value]) []:=aY.push (B':=w1.heap.size) ⟨mA.out.frame (fun b hb=>by cases hb) (by simp;omega),List.nodup_nil,(fun b hb=>by cases hb),(fun b hb=>by cases hb)⟩ (am.en (XU w4 y (len8 hy.1) (len8 hy.2))) (Nat.le_refl _) (fun b hb=>by cases hb);obtain ⟨A5,c5,G5,gM,fH⟩:=am.oJ (α:=aD) (xs:=xs++[y]) PE yr (fun g _ hm=>by cases hm);rw [fN] at gM;simp only [Value.slice.injEq,true_and] at gM;obtain ⟨rfl,rfl⟩:=gM
   have HS:=Z5 (xs++[y]) A4 c4 G5 w4 fH.rd O (fun l hl=>by
    rcases List.mem_append.1 hl with hl | hl
    ·have h1:=Bq (f:=aD.wt) hl;have h2:aD.wt l = l.key.size+l.value.size:=rfl;have:=Du.out;omega
    ·rw [List.mem_singleton] at hl;subst hl;omega)
   rw [fN] at HS;have ix:=I (gL.out.aL bL O);have kR:=I (fG.out.Qy bL tm.out);have Hc:=I (Dm.out.bJ fun g hg=>bL.block g (gO.out g hg));have ot:=I (nZ.out.pb bL O);have kq:=I (fun h=>TC (azG (xs:=xs++[y]) h));have Mp:=bL.size;clear fH yr eK nJ bL d8 cY tp mA gP qk fv RZ ma oX gL fG nZ tm;refine HS.mono ?_;clear HS;generalize BG (xs++[y]) = R at *;obtain ⟨u,b⟩:=R;rintro e w5 ⟨A6,c6,G6,rfl,iD,dB,Jg⟩;have ka:=I (ix.out.ext dB);have rz:=I (kR.out.ext dB);have WM:=I (Hc.out.ext dB);replace Jg:=I Jg;have tQ:=I (ot.out.pb dB O);replace iD:=I (iD.mono (B':=w.heap.size) O);have Rc:(k:Int)+1≤3:=O;exact Hd
  ·exact vp
theorem ays (w:World) (c:Nat) (A:Option Addr) (n aM:Nat) (h:cB w c A n aM) :
 Calls Tryz.prog 190 #[.pointer (some ⟨c,0,none⟩)] w fun e w'=>∃(xs:List aD) (A':Option Addr) (c':Nat) (G:List Nat),e = .returned (.slice A' xs.length c')∧am w' w.heap.size xs [.slice A' xs.length c'] G∧kL aD.wt xs≤306∧cB w' c A n aM∧nN [c] w w' :=
 (aB0 w c A n aM h).mono fun _ _ ⟨xs,A',c',G,a,b,d,e,f,_⟩=>⟨xs,A',c',G,a,b,d,e,f⟩
end Go.Proofs.YtjahcnjmjahbaaaGreat
