/- Draws of words, and of one label, taint, tolerance. No condition. -/
import Derived.Test.YtdegaofigemegaaGreatAddP0
import Derived.Test.YtdegaofigemegaaGreatSortNeedsI
namespace Go.Proofs.YtdegaofigemegaaGreat
open Go.ChangeShapes Go.WideShapes Go.ChangeAt Go.RowKit
set_option linter.unusedVariables false
set_option linter.unusedSimpArgs false
set_option maxHeartbeats 4000000
set_option maxRecDepth 100000
theorem Mk (W:World) (e:TypeId) (xs:Array Value) (k:Nat) (u:Value) (h:xs[k]? = some u):(W.alloc (.cells xs e)).cell? ⟨W.heap.size,k,none⟩ = some u:=by
 rw [cell_of_row _ _ _ _ _ _ (heap_alloc_new W _)];exact h
theorem ai.drawn {α:Type} [ax α] {w w':World} {B c:Nat} {x:α} {cs:List Value} {F:List Nat} (h:ai w B x cs F) (hu:nN [c] w w') (hc:c < B):ai w' B x cs F :=
 hu.own h (λb hb hm=>by have:=h.base b hb;rw [List.mem_singleton] at hm;omega)
theorem Su (w:World) (c:Nat) (A:Option Addr) (n cap:Nat) (h:cD w c A n cap) :
 Calls Tryz.prog 93 #[.pointer (some ⟨c,0,none⟩)] w λe w'=>∃s:ByteArray,e = .returned (.string s)/\(s.size<=8)/\cD w' c A n cap/\nN [c] w w':=by
 have ap:=h.lt;have HC:=I h;clear h;go_enter Tryz.func93,Tryz.ntmps93;go_wp2_with fail
 refine (Wz (λs=>s.size<=8) w.heap.size 6 _ J _ c A n cap (HC.out.ext (ak (aj _) _)) J S' (λk hk=>?_)).mono ?_
 ·exact Mj
 rintro e w1 ⟨s,rfl,hs,H1,hu⟩;replace H1:=I H1;replace hu:=(nN.lq [c] (ak (aj w) _)).trans hu;go_wp2;go_ret
 exact ⟨s,rfl,hs,H1.out,hu⟩
theorem Sw (w:World) (c:Nat) (A:Option Addr) (n cap:Nat) (h:cD w c A n cap) :
 Calls Tryz.prog 94 #[.pointer (some ⟨c,0,none⟩)] w λe w'=>∃s:ByteArray,e = .returned (.string s)/\(s.size<=8)/\cD w' c A n cap/\nN [c] w w':=by
 have ap:=h.lt;have HC:=I h;clear h;go_enter Tryz.func94,Tryz.ntmps94;go_wp2_with fail
 refine (Wz (λs=>s.size<=8) w.heap.size 6 _ J _ c A n cap (HC.out.ext (ak (aj _) _)) J S' (λk hk=>?_)).mono ?_
 ·exact Mj
 rintro e w1 ⟨s,rfl,hs,H1,hu⟩;replace H1:=I H1;replace hu:=(nN.lq [c] (ak (aj w) _)).trans hu;go_wp2;go_ret
 exact ⟨s,rfl,hs,H1.out,hu⟩
theorem rS (w:World) (c:Nat) (A:Option Addr) (n cap:Nat) (h:cD w c A n cap) :
 Calls Tryz.prog 29 #[.pointer (some ⟨c,0,none⟩)] w λe w'=>∃s:ByteArray,e = .returned (.string s)/\((s.size<=8/\s≠⟨#[110,111,119,104,101,114,101]⟩)/\Qs s = true)/\cD w' c A n cap/\nN [c] w w':=by
 have ap:=h.lt;have HC:=I h;clear h;go_enter Tryz.func29,Tryz.ntmps29;go_wp2_with fail
 refine (Wz (λs=>(s.size<=8/\s≠⟨#[110,111,119,104,101,114,101]⟩)/\Qs s = true) w.heap.size 7 _ J _ c A n cap (HC.out.ext (ak (aj _) _)) J S' (λk hk=>?_)).mono ?_
 ·have so:k = 0∨k = 1∨k = 2∨k = 3∨k = 4∨k = 5∨k = 6:=by omega
  rcases so with rfl | rfl | rfl | rfl | rfl | rfl | rfl <;> exact ⟨_,Mk _ _ _ _ _ rfl,by decide +kernel⟩
 rintro e w1 ⟨s,rfl,hs,H1,hu⟩;replace H1:=I H1;replace hu:=(nN.lq [c] (ak (aj w) _)).trans hu;go_wp2;go_ret
 exact ⟨s,rfl,hs,H1.out,hu⟩
theorem aAO (w:World) (c:Nat) (A:Option Addr) (n cap:Nat) (h:cD w c A n cap) :
 Calls Tryz.prog 29 #[.pointer (some ⟨c,0,none⟩)] w λe w'=>∃s:ByteArray,e = .returned (.string s)/\(s.size<=8/\s≠⟨#[110,111,119,104,101,114,101]⟩)/\cD w' c A n cap/\nN [c] w w' :=
 (rS w c A n cap h).mono λ_ _ ⟨s,a,b,d⟩=>⟨s,a,b.1,d⟩
theorem ayu (w:World) (c:Nat) (A:Option Addr) (n cap:Nat) (h:cD w c A n cap) :
 Calls Tryz.prog 58 #[.pointer (some ⟨c,0,none⟩)] w λe w'=>∃s:Int,e = .returned (.int .i64 s)/\(0<=s/\s<=1024000)/\cD w' c A n cap/\nN [c] w w':=by
 have ap:=h.lt;have HC:=I h;clear h;go_enter Tryz.func58,Tryz.ntmps58;go_wp2_with fail
 refine (WA (λs=>0<=s/\s<=1024000) w.heap.size 9 _ J _ c A n cap (HC.out.ext (ak (aj _) _)) J S' (λk hk=>?_)).mono ?_
 ·have so:k = 0∨k = 1∨k = 2∨k = 3∨k = 4∨k = 5∨k = 6∨k = 7∨k = 8:=by omega
  rcases so with rfl | rfl | rfl | rfl | rfl | rfl | rfl | rfl | rfl <;> exact ⟨_,Mk _ _ _ _ _ rfl,J⟩
 rintro e w1 ⟨s,rfl,hs,H1,hu⟩;replace H1:=I H1;replace hu:=(nN.lq [c] (ak (aj w) _)).trans hu;go_wp2;go_ret
 exact ⟨s,rfl,hs,H1.out,hu⟩
theorem nN.new {F:List Nat} {w w1:World} (h:nN F w w1) {b:Nat} (hb:w.heap.size<=b) (i:Nat) (u:Value):nN F w (w1.setCell ⟨b,i,none⟩ u) :=
 ⟨h.os,h.tape,h.output,by simp [World.setCell];exact h.size,λk hk hn=>(Below.heap_setCell _ _ _ _ bx).trans (h.block k hk hn)⟩
theorem aC9 (w:World) (c:Nat) (A:Option Addr) (n cap:Nat) (h:cD w c A n cap) :
 Calls Tryz.prog 101 #[.pointer (some ⟨c,0,none⟩)] w λe w'=>∃x:iU,e = .returned (.agg #[.string x.key,.string x.value,.int .i64 x.effect])/\(x.key.size<=8/\x.value.size<=8/\1<=x.effect/\x.effect<=2)/\cD w' c A n cap/\nN [c] w w':=by
 have ap:=h.lt;have HC:=I h;clear h;go_enter Tryz.func101,Tryz.ntmps101;go_wp2_with fail
 refine (Su _ c A n cap (HC.out.ext (ak (aj _) _))).mono ?_;rintro e w1 ⟨s1,rfl,cS,H1,hu1⟩;replace H1:=I H1;go_wp2_with fail
 refine (Sw _ c A n cap H1.out).mono ?_;rintro e w2 ⟨s2,rfl,cO,H2,dB⟩;replace H2:=I H2;go_wp2_with fail
 refine (oe 2 J _ c A n cap H2.out).mono ?_;rintro e w3 ⟨r,rfl,hr,H3,cP⟩;replace H3:=I H3;have B0:=oG.new w [.string ⟨#[]⟩,.string ⟨#[]⟩,.int .i64 0] 116;have B3:=((B0.ce hu1 J).ce dB J).ce cP J;have q0:=B3.cell (i:=0) rfl;have q1:=B3.cell (i:=1) rfl;have q2:=B3.cell (i:=2) rfl;have f0:=B3.fz 0;have f1:=B3.fz 1;have f2:=B3.fz 2;clear B0 B3;go_wp2;refine bodyPost_ret (v:=.agg #[.string s1,.string s2,.int .i64 (1+r)]) (by simp [results,Tryz.results101,go_sem, *]) rfl ?_;exact ⟨⟨s1,s2,1+r⟩,rfl,⟨cS,cO,by dsimp only;omega,by dsimp only;omega⟩,((H3.out.bL ap 0 _).bL ap 1 _).bL ap 2 _,((((((nN.lq [c] (ak (aj w) _)).trans hu1).trans dB).trans cP).new (Nat.le_refl _) 0 _).new (Nat.le_refl _) 1 _).new (Nat.le_refl _) 2 _⟩
theorem azF (w:World) (c:Nat) (A:Option Addr) (n cap:Nat) (h:cD w c A n cap) :
 Calls Tryz.prog 99 #[.pointer (some ⟨c,0,none⟩)] w λe w'=>∃x:bH,e = .returned (.agg #[.string x.key,.bool x.equal,.string x.value,.int .i64 x.effect])/\(x.key.size<=8/\x.value.size<=8/\0<=x.effect/\x.effect<=2)/\cD w' c A n cap/\nN [c] w w':=by
 have ap:=h.lt;have HC:=I h;clear h;go_enter Tryz.func99,Tryz.ntmps99;go_wp2_with fail
 refine (Su _ c A n cap (HC.out.ext (ak (aj _) _))).mono ?_;rintro e w1 ⟨s1,rfl,cS,H1,hu1⟩;replace H1:=I H1;go_wp2_with fail
 refine (oe 3 J _ c A n cap H1.out).mono ?_;rintro e w2 ⟨r,rfl,hr,H2,dB⟩;replace H2:=I H2;have X0:=oG.new w [.string ⟨#[]⟩,.bool false,.string ⟨#[]⟩,.int .i64 0] 120;have X2:=(X0.ce hu1 J).ce dB J;have cI:=hu1.size;have ca:=dB.size;simp at cI;have bM:=H2.out.lt;have U2:=I (((nN.lq [c] (ak (aj w) _)).trans hu1).trans dB);have Y2:=oG.new w2 [.string s1,.bool false,.string ⟨#[]⟩,.int .i64 r] 120;replace X2:=X2.ext (ak (aj _) (.cells [.string s1,.bool false,.string ⟨#[]⟩,.int .i64 r].toArray 120));replace U2:=I (U2.out.alloc (.cells #[.string s1,.bool false,.string ⟨#[]⟩,.int .i64 r] 120));clear X0 hu1 dB;go_wp2_with fail
 refine (FK 2 J _ c A n cap (H2.out.ext (ak (aj _) _))).mono ?_;rintro e w3 ⟨b,rfl,H3,cP⟩;replace H3:=I H3;have X3:=X2.ce cP J;have Y3:=Y2.ce cP J;have U3:=I (U2.out.trans cP);have eB:=cP.size;simp at eB;clear X2 Y2 cP U2;cases b
 ·obtain ⟨Pn,aB7,aB8,aB9,aCa,aCb,aCc,aCd⟩:=Iu Y3;go_wp2_with fail
  refine (FK 3 J _ c A n cap H3.out).mono ?_;rintro e w4 ⟨b,rfl,H4,Td⟩;replace H4:=I H4;have X4:=X3.ce Td J;have Y4:=Y3.ce Td J;have U4:=I (U3.out.trans Td);clear Pn aB7 aB8 aB9 aCa aCb aCc aCd;clear X3 Y3 Td U3;obtain ⟨Po,fX4_0,kX4_1,fX4_1,kX4_2,fX4_2,kX4_3,fX4_3⟩:=Iu X4;obtain ⟨WS,aFf,aFg,aFh,aFi,aFj,aFk,aFl⟩:=Iu Y4;cases b
  ·go_wp2;refine bodyPost_ret (v:=.agg #[.string s1,.bool false,.string ⟨#[]⟩,.int .i64 r]) (by simp [results,Tryz.results99,go_sem, *]) rfl ?_;exact ⟨⟨s1,false,⟨#[]⟩,r⟩,rfl,⟨cS,Nat.zero_le _,by dsimp only;omega,by dsimp only;omega⟩,((((H4.out.bL ap 0 _).bL ap 1 _).bL ap 2 _).bL ap 3 _),((((U4.out.new (Nat.le_refl _) 0 _).new (Nat.le_refl _) 1 _).new (Nat.le_refl _) 2 _).new (Nat.le_refl _) 3 _)⟩
  ·go_wp2;refine bodyPost_ret (v:=.agg #[.string ⟨#[]⟩,.bool false,.string ⟨#[]⟩,.int .i64 r]) (by simp [results,Tryz.results99,go_sem, *]) rfl ?_;exact ⟨⟨⟨#[]⟩,false,⟨#[]⟩,r⟩,rfl,⟨Nat.zero_le _,Nat.zero_le _,by dsimp only;omega,by dsimp only;omega⟩,(((((H4.out.bL J 0 _).bL ap 0 _).bL ap 1 _).bL ap 2 _).bL ap 3 _),(((((U4.out.new J 0 _).new (Nat.le_refl _) 0 _).new (Nat.le_refl _) 1 _).new (Nat.le_refl _) 2 _).new (Nat.le_refl _) 3 _)⟩
 ·obtain ⟨Pn,aB7,aB8,aB9,aCa,aCb,aCc,aCd⟩:=Iu Y3;go_wp2_with fail
  refine (Sw _ c A n cap (H3.out.bL J 1 _)).mono ?_;rintro e w4 ⟨s2,rfl,cO,H4,Td⟩;replace H4:=I H4;have X4:=(X3.bL J 1 _).ce Td J;have Y4:=(Y3.put 1 _).ce Td J;have U4:=I ((U3.out.new J 1 _).trans Td);clear Pn aB7 aB8 aB9 aCa aCb aCc aCd;clear X3 Y3 Td U3;obtain ⟨Po,fX4_0,kX4_1,fX4_1,kX4_2,fX4_2,kX4_3,fX4_3⟩:=Iu X4;obtain ⟨WS,aFf,aFg,aFh,aFi,aFj,aFk,aFl⟩:=Iu Y4;go_wp2;refine bodyPost_ret (v:=.agg #[.string s1,.bool true,.string s2,.int .i64 r]) (by simp [results,Tryz.results99,go_sem, *]) rfl ?_;exact ⟨⟨s1,true,s2,r⟩,rfl,⟨cS,cO,by dsimp only;omega,by dsimp only;omega⟩,(((((H4.out.bL J 2 _).bL ap 0 _).bL ap 1 _).bL ap 2 _).bL ap 3 _),(((((U4.out.new J 2 _).new (Nat.le_refl _) 0 _).new (Nat.le_refl _) 1 _).new (Nat.le_refl _) 2 _).new (Nat.le_refl _) 3 _)⟩
structure sM (g:Nat) (w w':World):Prop where
 os:w'.os = w.os
 tape:w'.tape = w.tape
 output:w'.output = w.output
 size:w'.heap.size = w.heap.size
 block:∀b,b≠g->w'.heap[b]? = w.heap[b]?
section
variable {P:Program} {w w':World} {g:Nat}
theorem oG.only {b:Nat} {cs:List Value} (h:oG w b cs) (ho:sM g w w') (hb:b≠g):oG w' b cs:=h.keep (ho.block b hb)
theorem nN.only {F:List Nat} {w0:World} (h:nN F w0 w) (ho:sM g w w') (hg:w0.heap.size<=g):nN F w0 w' :=
 ⟨ho.os.trans h.os,ho.tape.trans h.tape,ho.output.trans h.output,by rw [ho.size];exact h.size,λi hi hn=>(ho.block i J).trans (h.block i hi hn)⟩
theorem cD.only {c n cap:Nat} {A:Option Addr} (h:cD w c A n cap) (ho:sM g w w') (hg:c < g):cD w' c A n cap:=by
 obtain ⟨⟨i,x,t,h1,h2⟩,h3,h4⟩:=h;refine ⟨⟨i,x,t,(ho.block c J).trans h1,h2⟩,λk hk=>?_,h4⟩;obtain ⟨q,o,v,e,hq,hv,ic⟩:=h3 k hk;exact ⟨q,o,v,e,hq,(World.cell?_of_block (ho.block q J)).trans hv,ic⟩
theorem ai.only {α:Type} [ax α] {B:Nat} {x:α} {cs:List Value} {F:List Nat} (h:ai w B x cs F) (ho:sM g w w') (hg:∀b∈F,b≠g):ai w' B x cs F :=
 h.keep (λb hb=>ho.block b (hg b hb)) (by rw [ho.size];exact Nat.le_refl _)
theorem C' {w0:World} (h:Below w0.heap.size w0 w) (ho:sM g w w') (hg:w0.heap.size<=g):Below w0.heap.size w0 w' :=
 ⟨ho.os.trans h.os,ho.tape.trans h.tape,ho.output.trans h.output,by rw [ho.size];exact h.size,λi hi=>(ho.block i J).trans (h.block i hi)⟩
theorem oG.tf (w:World) (a b:Obj) (cs:List Value) (t:TypeId):oG (((w.alloc a).alloc b).alloc (.cells cs.toArray t)) (w.heap.size+1+1) cs:=by
 have h:=oG.new ((w.alloc a).alloc b) cs t;have e:((w.alloc a).alloc b).heap.size = w.heap.size+1+1:=by simp
 rw [e] at h;exact h
theorem oG.range {cs:List Value} (h:oG w g cs):w.rangeAt g 0 cs:=λj v hv=>by
 rw [Nat.zero_add];exact h.cell hv
theorem ly {op:Oper} {a:Act} {K:Act->World->Prop} {Q:Exit->Act->World->Prop} (ty:TypeId) (x y:Operand) (ho:op.op = .store ty x y)
 (g o:Nat) (cs old:List Value) (hx:a.eval x = .pointer (some ⟨g,o,none⟩)) (hy:a.eval y = .agg cs.toArray) (hB:oG w g old) (hl:o+cs.length<=old.length)
 (hi:(P.info? ty).map (·.size) = some cs.length) (h1:∀v∈cs,v.oneCell' = true)
 (h:∀w',oG w' g (old.take o++cs++old.drop (o+cs.length))->sM g w w'->K (a.put op.dst undef) w'):op.wp P a w K Q:=by
 obtain ⟨t,hg⟩:=hB;have hr:=run_storeCells_at (P:=P) g o t cs 0 old.toArray w hg (by simpa using hl) h1;have hv:(storeVar ty ⟨g,o,none⟩ (.agg cs.toArray)).run P w = .ok () (w.setRow g (old.take o++cs++old.drop (o+cs.length)).toArray):=by
  cases hq:P.info? ty with
  | none=>simp [hq] at hi
  | some i =>have hs:cs.length = i.size:=(by simp [hq] at hi;omega);simp only [Nat.add_zero,List.toList_toArray] at hr;simp [storeVar,sizeOf,typeInfo,hq,Value.cells,hs,hr]
 unfold Oper.wp execOp;simp only [ho,hx,hy,Instr.storeAt,Instr.sureAddr,Sem.run_bind,Sem.run_pure,Result.andThen_ok,hv];refine h _ ⟨t,setRow_heap w g _ _ t _ hg⟩ ⟨rfl,rfl,rfl,by simp [World.setRow],λb hb=>?_⟩;simp [World.setRow,Array.getElem?_modify,hb,Ne.symm hb]
theorem BF {op:Oper} {a:Act} {K:Act->World->Prop} {Q:Exit->Act->World->Prop} (ty:TypeId) (x:Operand) (ho:op.op = .load ty x)
 (g:Nat) (cs:List Value) (hx:a.eval x = .pointer (some ⟨g,0,none⟩)) (d:TypeDesc) (hB:oG w g cs) (hu:P.underlying ty = some d) (hd:d.isRow = true) (hi:(P.info? ty).map (·.size) = some cs.length)
 (h:K (a.put op.dst (.agg cs.toArray)) w):op.wp P a w K Q :=
 wp_load_mid ty x ho g 0 hx cs d hB.range hu hd hi h
theorem Sx {fn:Func} {p:Tmp} {ty:TypeId} (h:fn.results = #[.cell p ty]) (tmps:Array Value) (g:Nat) (cs:List Value) (d:TypeDesc) (hp:tmps.getD p undef = .pointer (some ⟨g,0,none⟩)) (hB:oG w g cs)
 (hu:P.underlying ty = some d) (hd:(match d with | .struct _ | .array _ _=>true | _=>false) = true) (hi:(P.info? ty).map (·.size) = some cs.length):(results fn tmps).run P w = .ok (.agg cs.toArray) w:=by
 obtain ⟨t,h1⟩:=hB;exact results_cell_row h tmps w g t cs.toArray (0,0) d hp h1 hu hd avv
theorem xc {fn:Func} {p u:Tmp} {ty:TypeId} (h:fn.results = #[.cell p ty,.tmp u]) (tmps:Array Value) (g:Nat) (cs:List Value) (d:TypeDesc) (v:Value) (hp:tmps.getD p undef = .pointer (some ⟨g,0,none⟩)) (hv:tmps.getD u undef = v) (hB:oG w g cs)
 (hu:P.underlying ty = some d) (hd:d.isRow = true) (hi:(P.info? ty).map (·.size) = some cs.length):(results fn tmps).run P w = .ok (.tuple #[.agg cs.toArray,v]) w:=by
 have hr:=run_loadVar_mid (P:=P) w g 0 ty cs d hB.range hu hd hi;have N2:tmps[p]?.getD undef = .pointer (some ⟨g,0,none⟩):=by simpa using hp
 have tk:tmps[u]?.getD undef = v:=by simpa using hv
 simp [results,h,N2,tk,asAddr,hr]
end
theorem len8 {s:ByteArray} (h:s.size<=8):s.size<=maxLen:=by unfold maxLen;omega
theorem cD.below {w w':World} {c n cap B:Nat} {A:Option Addr} (h:cD w c A n cap) (hb:Below B w w') (hc:c < B):cD w' c A n cap:=by
 obtain ⟨⟨i,x,t,h1,h2⟩,h3,h4⟩:=h;refine ⟨⟨i,x,t,(hb.block c hc).trans h1,h2⟩,λk hk=>?_,h4⟩;obtain ⟨g,o,v,e,hg,hv,ic⟩:=h3 k hk;exact ⟨g,o,v,e,hg,(World.cell?_of_block (hb.block g J)).trans hv,ic⟩
theorem nN.sl {F:List Nat} {w w1 w2:World} {B:Nat} (h:nN F w w1) (hb:Below B w1 w2) (hB:w.heap.size<=B):nN F w w2 :=
 ⟨hb.os.trans h.os,hb.tape.trans h.tape,hb.output.trans h.output,Nat.le_trans h.size hb.size,λi hi hn=>(hb.block i J).trans (h.block i hi hn)⟩
theorem ai.SK {α:Type} [ax α] {w w':World} {B B2:Nat} {x:α} {cs:List Value} {F:List Nat} (h:ai w B x cs F) (hb:Below B2 w w') (hF:∀b∈F,b < B2):ai w' B x cs F :=
 h.keep (λb hm=>hb.block b (hF b hm)) hb.size
theorem azD {xs:List iU} (h:(Fq xs).2 = true):La (Fq xs).1 = true:=by
 unfold Fq at h |-;exact D1
theorem sU (w:World) (c:Nat) (A:Option Addr) (n cap:Nat) (h:cD w c A n cap) :
 Calls Tryz.prog 62 #[.pointer (some ⟨c,0,none⟩)] w λe w'=>∃(xs:List iU) (A':Option Addr) (c':Nat) (G:List Nat),e = .returned (.slice A' xs.length c')/\ai w' w.heap.size xs [.slice A' xs.length c'] G/\La xs = true/\cD w' c A n cap/\nN [c] w w'/\fe w' w.heap.size 116 3 A' c':=by
 have ap:=h.lt;have HC:=I h;clear h;go_enter Tryz.func62,Tryz.ntmps62;go_wp2_with fail
 go_loopw [3,4] (λv i wr=>∃(xs:List iU) (A':Option Addr) (c':Nat) (G:List Nat) (k:Nat),v = .slice A' xs.length c'/\i = .int .i64 k/\(k:Int)<=2/\ai wr w.heap.size xs [.slice A' xs.length c'] G/\Hid (La xs = true)/\cD wr c A n cap/\nN [c] w wr/\Hid (fe wr w.heap.size 116 3 A' c')) (λ_ i _=>2 - (intOf i).toNat)
 case atStart =>obtain ⟨A',c',G,hv,hO⟩:=ai.oJ (α:=iU) (D9 w 116 3 w.heap.size rfl) (aY.nil _ _) (λg _ hm=>by cases hm);simp only [Value.slice.injEq,List.length_nil] at hv;obtain ⟨rfl,_,rfl⟩:=hv;exact ⟨[],_,_,G,0,rfl,rfl,J,hO,I rfl,HC.out.ext (ak (aj _) _),nN.lq _ (ak (aj _) _),I (fe.oJ (D9 w 116 3 w.heap.size rfl) (Nat.le_refl _))⟩
 case round =>
  obtain ⟨xs,A',c',G,k,rfl,rfl,hk,hO,Du,hcur,hur,n9⟩:=hrel;have HO:=I hO;have vF:=I hcur;have vG:=I hur;have qa:=hur.size;have XS:(xs.length:Int)<=204:=by have h1:=gJ iU.wt xs;have:=Ss Du.out;omega
  clear hO hcur hur;go_wp2_with fail
  refine (oe 3 J _ c A n cap vF.out).mono ?_;rintro e w1 ⟨r,rfl,hr,H1,hu1⟩;have iY:=I (HO.out.drawn hu1 ap);have tp:=I (vG.out.trans hu1);have tt:=I (n9.out.drawn hu1 ap);have cI:=hu1.size;have hJ:=I H1;clear H1 hu1 HO vF vG n9;by_cases hkr:(k:Int) < r
  ·have vI:=I iY.out.lt;have zB:=I tt.out.lt;have cU:=hJ.out.lt
   go_wp2_with (
    at_builtin
    go_must (refine rW uv J' J' _ _ J' (w1.alloc (.cells #[] 116)) w1.heap.size _ 0 [] (D9 w1 116 3 w1.heap.size rfl) J' xs A' c' G ((show Sl w1 xs A' c' G from iY.out.rd).ext (ak (aj _) _)) J' J J S' ?_)
    intro v2 w2 ds G2 cH bi aw hg cF;go_must (obtain ⟨A2,c2,eO⟩:=mY aw)
    go_must (subst eO)
    go_must (have am:Below w1.heap.size w1 w2:=lS (World.ownsRow_made (e:=116) (size:=3) w1 #[] 0 (Nat.le_refl _) (Nat.zero_le _) S') hg (ak (aj _) _) S'))
   simp only [Nat.zero_add,List.nil_append] at aw;try simp only [Nat.zero_add]
   obtain rfl:=N3 (λhh=>(oK hh).2.1) cH;have o4:=I cH;have r7:=I (hJ.out.ext am);have RZ:=I (iY.out.ext am);have Gg:=I (tt.out.ext am);have pw:=I (tp.out.sl am J);have ca:=am.size;have vL:=I aw;clear cH bi aw hg cF am;refine (aC9 _ c A n cap r7.out).mono ?_;rintro e w3 ⟨y,rfl,hy,H3,cP⟩;have iA:=I H3;clear H3;have gN:=I (RZ.out.drawn cP ap);have Gi:=I (Gg.out.drawn cP ap);have px:=I (pw.out.trans cP);have ew:=rQ vL.out cP (show c < w1.heap.size by omega);have eB:=cP.size;have qi:w1.heap.size<=w3.heap.size:=J
   go_wp2_with (
    at_builtin
    go_must (refine lC uv J' _ _ J' _ _ _ _ _ ew J' [.string y.key,.string y.value,.int .i64 y.effect] po J' fm J J qi ?_)
    intro v4 w4 eM pZ Wy;go_must (obtain ⟨A4,c4,hv4⟩:=mY eM)
    go_must (subst hv4)
    go_must (have bm:Below w1.heap.size w3 w4:=lS ew pZ (Below.refl _ _) qi))
   have fG:(xs++[y]).length = xs.length+1:=S';have B7:aY w4 w1.heap.size (xs++[y]) (ds++[.string y.key,.string y.value,.int .i64 y.effect]) []:=aY.push (B':=w1.heap.size) ⟨o4.out.frame (λb hb=>by cases hb) (by simp;omega),List.nodup_nil,(λb hb=>by cases hb),(λb hb=>by cases hb)⟩ (ai.flat (Q8 w4 y (len8 hy.1) (len8 hy.2.1) xo)) (Nat.le_refl _) (λb hb=>by cases hb);obtain ⟨A5,c5,G5,iF,fH⟩:=ai.oJ (α:=iU) (xs:=xs++[y]) RF B7 (λg _ hm=>by cases hm);rw [fG] at iF;simp only [Value.slice.injEq,true_and] at iF;obtain ⟨rfl,rfl⟩:=iF
   have HS:=aJN (xs++[y]) A4 c4 G5 w4 fH.rd J (λl hl=>by
    rcases List.mem_append.1 hl with hl | hl
    ·have h1:=Bq (f:=iU.wt) hl;have h2:iU.wt l = l.key.size+l.value.size:=rfl;have:=Ss Du.out;omega
    ·rw [List.mem_singleton] at hl;subst hl;omega)
   rw [fG] at HS;have j9:=I (iA.out.below bm J);have ng:=I (gN.out.SK bm vI.out);have AJ:=I (Gi.out.keep λg hg=>bm.block g (zB.out g hg));have pF:=I (px.out.sl bm J);have en:=I (λh=>azD (xs:=xs++[y]) h);have Ff:=bm.size;clear fH B7 eM pZ bm ew cP vL o4 iY tp hJ RZ pw r7 iA gN px vI;refine HS.mono ?_;clear HS;generalize Fq (xs++[y]) = R at *;exact Db
  ·exact yq
theorem aBo {xs:List bH} (h:(jK xs).2 = true):Ya (jK xs).1 = true:=by
 unfold jK at h |-;exact D1
theorem hZ (w:World) (c:Nat) (A:Option Addr) (n cap:Nat) (h:cD w c A n cap) :
 Calls Tryz.prog 60 #[.pointer (some ⟨c,0,none⟩)] w λe w'=>∃(xs:List bH) (A':Option Addr) (c':Nat) (G:List Nat),e = .returned (.slice A' xs.length c')/\ai w' w.heap.size xs [.slice A' xs.length c'] G/\Ya xs = true/\cD w' c A n cap/\nN [c] w w'/\fe w' w.heap.size 120 4 A' c':=by
 have ap:=h.lt;have HC:=I h;clear h;go_enter Tryz.func60,Tryz.ntmps60;go_wp2_with fail
 go_loopw [3,4] (λv i wr=>∃(xs:List bH) (A':Option Addr) (c':Nat) (G:List Nat) (k:Nat),v = .slice A' xs.length c'/\i = .int .i64 k/\(k:Int)<=2/\ai wr w.heap.size xs [.slice A' xs.length c'] G/\Hid (Ya xs = true)/\cD wr c A n cap/\nN [c] w wr/\Hid (fe wr w.heap.size 120 4 A' c')) (λ_ i _=>2 - (intOf i).toNat)
 case atStart =>obtain ⟨A',c',G,hv,hO⟩:=ai.oJ (α:=bH) (D9 w 120 4 w.heap.size rfl) (aY.nil _ _) (λg _ hm=>by cases hm);simp only [Value.slice.injEq,List.length_nil] at hv;obtain ⟨rfl,_,rfl⟩:=hv;exact ⟨[],_,_,G,0,rfl,rfl,J,hO,I rfl,HC.out.ext (ak (aj _) _),nN.lq _ (ak (aj _) _),I (fe.oJ (D9 w 120 4 w.heap.size rfl) (Nat.le_refl _))⟩
 case round =>
  obtain ⟨xs,A',c',G,k,rfl,rfl,hk,hO,Du,hcur,hur,n9⟩:=hrel;have HO:=I hO;have vF:=I hcur;have vG:=I hur;have qa:=hur.size;have XS:(xs.length:Int)<=204:=by have h1:=gJ bH.wt xs;have:=Pm Du.out;omega
  clear hO hcur hur;go_wp2_with fail
  refine (oe 3 J _ c A n cap vF.out).mono ?_;rintro e w1 ⟨r,rfl,hr,H1,hu1⟩;have iY:=I (HO.out.drawn hu1 ap);have tp:=I (vG.out.trans hu1);have tt:=I (n9.out.drawn hu1 ap);have cI:=hu1.size;have hJ:=I H1;clear H1 hu1 HO vF vG n9;by_cases hkr:(k:Int) < r
  ·have vI:=I iY.out.lt;have zB:=I tt.out.lt;have cU:=hJ.out.lt
   go_wp2_with (
    at_builtin
    go_must (refine rW ut J' J' _ _ J' (w1.alloc (.cells #[] 120)) w1.heap.size _ 0 [] (D9 w1 120 4 w1.heap.size rfl) J' xs A' c' G ((show Sl w1 xs A' c' G from iY.out.rd).ext (ak (aj _) _)) J' J J S' ?_)
    intro v2 w2 ds G2 cH bi aw hg cF;go_must (obtain ⟨A2,c2,eO⟩:=mY aw)
    go_must (subst eO)
    go_must (have am:Below w1.heap.size w1 w2:=lS (World.ownsRow_made (e:=120) (size:=4) w1 #[] 0 (Nat.le_refl _) (Nat.zero_le _) S') hg (ak (aj _) _) S'))
   simp only [Nat.zero_add,List.nil_append] at aw;try simp only [Nat.zero_add]
   obtain rfl:=N3 (λhh=>(jv hh).2.1) cH;have o4:=I cH;have r7:=I (hJ.out.ext am);have RZ:=I (iY.out.ext am);have Gg:=I (tt.out.ext am);have pw:=I (tp.out.sl am J);have ca:=am.size;have vL:=I aw;clear cH bi aw hg cF am;refine (azF _ c A n cap r7.out).mono ?_;rintro e w3 ⟨y,rfl,hy,H3,cP⟩;have iA:=I H3;clear H3;have gN:=I (RZ.out.drawn cP ap);have Gi:=I (Gg.out.drawn cP ap);have px:=I (pw.out.trans cP);have ew:=rQ vL.out cP (show c < w1.heap.size by omega);have eB:=cP.size;have qi:w1.heap.size<=w3.heap.size:=J
   go_wp2_with (
    at_builtin
    go_must (refine lC ut J' _ _ J' _ _ _ _ _ ew J' [.string y.key,.bool y.equal,.string y.value,.int .i64 y.effect] po J' fm J J qi ?_)
    intro v4 w4 eM pZ Wy;go_must (obtain ⟨A4,c4,hv4⟩:=mY eM)
    go_must (subst hv4)
    go_must (have bm:Below w1.heap.size w3 w4:=lS ew pZ (Below.refl _ _) qi))
   have fG:(xs++[y]).length = xs.length+1:=S';have B7:aY w4 w1.heap.size (xs++[y]) (ds++[.string y.key,.bool y.equal,.string y.value,.int .i64 y.effect]) []:=aY.push (B':=w1.heap.size) ⟨o4.out.frame (λb hb=>by cases hb) (by simp;omega),List.nodup_nil,(λb hb=>by cases hb),(λb hb=>by cases hb)⟩ (ai.flat (Ov w4 y (len8 hy.1) (len8 hy.2.1) xo)) (Nat.le_refl _) (λb hb=>by cases hb);obtain ⟨A5,c5,G5,iF,fH⟩:=ai.oJ (α:=bH) (xs:=xs++[y]) RF B7 (λg _ hm=>by cases hm);rw [fG] at iF;simp only [Value.slice.injEq,true_and] at iF;obtain ⟨rfl,rfl⟩:=iF
   have HS:=aIV (xs++[y]) A4 c4 G5 w4 fH.rd J (λl hl=>by
    rcases List.mem_append.1 hl with hl | hl
    ·have h1:=Bq (f:=bH.wt) hl;have h2:bH.wt l = l.key.size+l.value.size:=rfl;have:=Pm Du.out;omega
    ·rw [List.mem_singleton] at hl;subst hl;omega)
   rw [fG] at HS;have j9:=I (iA.out.below bm J);have ng:=I (gN.out.SK bm vI.out);have AJ:=I (Gi.out.keep λg hg=>bm.block g (zB.out g hg));have pF:=I (px.out.sl bm J);have en:=I (λh=>aBo (xs:=xs++[y]) h);have Ff:=bm.size;clear fH B7 eM pZ bm ew cP vL o4 iY tp hJ RZ pw r7 iA gN px vI;refine HS.mono ?_;clear HS;generalize jK (xs++[y]) = R at *;exact Db
  ·exact yq
theorem azG {xs:List ao} (h:(BG xs).2 = true):sD (BG xs).1 = true:=by
 unfold BG at h |-;exact D1
theorem mT (w:World) (c:Nat) (A:Option Addr) (n cap:Nat) (h:cD w c A n cap) :
 Calls Tryz.prog 57 #[.pointer (some ⟨c,0,none⟩)] w λe w'=>∃(xs:List ao) (A':Option Addr) (c':Nat) (G:List Nat),e = .returned (.slice A' xs.length c')/\ai w' w.heap.size xs [.slice A' xs.length c'] G/\sD xs = true/\cD w' c A n cap/\nN [c] w w'/\fe w' w.heap.size 113 2 A' c':=by
 have ap:=h.lt;have HC:=I h;clear h;go_enter Tryz.func57,Tryz.ntmps57;go_wp2_with fail
 go_loopw [3,4] (λv i wr=>∃(xs:List ao) (A':Option Addr) (c':Nat) (G:List Nat) (k:Nat),v = .slice A' xs.length c'/\i = .int .i64 k/\(k:Int)<=3/\ai wr w.heap.size xs [.slice A' xs.length c'] G/\Hid (sD xs = true)/\cD wr c A n cap/\nN [c] w wr/\Hid (fe wr w.heap.size 113 2 A' c')) (λ_ i _=>3 - (intOf i).toNat)
 case atStart =>obtain ⟨A',c',G,hv,hO⟩:=ai.oJ (α:=ao) (D9 w 113 2 w.heap.size rfl) (aY.nil _ _) (λg _ hm=>by cases hm);simp only [Value.slice.injEq,List.length_nil] at hv;obtain ⟨rfl,_,rfl⟩:=hv;exact ⟨[],_,_,G,0,rfl,rfl,J,hO,I rfl,HC.out.ext (ak (aj _) _),nN.lq _ (ak (aj _) _),I (fe.oJ (D9 w 113 2 w.heap.size rfl) (Nat.le_refl _))⟩
 case round =>
  obtain ⟨xs,A',c',G,k,rfl,rfl,hk,hO,Du,hcur,hur,n9⟩:=hrel;have HO:=I hO;have vF:=I hcur;have vG:=I hur;have qa:=hur.size;have XS:(xs.length:Int)<=306:=by have h1:=gJ ao.wt xs;have:=IG Du.out;omega
  clear hO hcur hur;go_wp2_with fail
  refine (oe 4 J _ c A n cap vF.out).mono ?_;rintro e w1 ⟨r,rfl,hr,H1,hu1⟩;have iY:=I (HO.out.drawn hu1 ap);have tp:=I (vG.out.trans hu1);have tt:=I (n9.out.drawn hu1 ap);have cI:=hu1.size;have hJ:=I H1;clear H1 hu1 HO vF vG n9;by_cases hkr:(k:Int) < r
  ·have vI:=I iY.out.lt;have zB:=I tt.out.lt;have cU:=hJ.out.lt
   go_wp2_with (
    at_builtin
    go_must (refine rW ux J' J' _ _ J' (w1.alloc (.cells #[] 113)) w1.heap.size _ 0 [] (D9 w1 113 2 w1.heap.size rfl) J' xs A' c' G ((show Sl w1 xs A' c' G from iY.out.rd).ext (ak (aj _) _)) J' J J S' ?_)
    intro v2 w2 ds G2 cH bi aw hg cF;go_must (obtain ⟨A2,c2,eO⟩:=mY aw)
    go_must (subst eO)
    go_must (have am:Below w1.heap.size w1 w2:=lS (World.ownsRow_made (e:=113) (size:=2) w1 #[] 0 (Nat.le_refl _) (Nat.zero_le _) S') hg (ak (aj _) _) S'))
   simp only [Nat.zero_add,List.nil_append] at aw;try simp only [Nat.zero_add]
   obtain rfl:=N3 (λhh=>(vO hh).2.1) cH;have o4:=I cH;have r7:=I (hJ.out.ext am);have RZ:=I (iY.out.ext am);have Gg:=I (tt.out.ext am);have pw:=I (tp.out.sl am J);have ca:=am.size;have vL:=I aw;clear cH bi aw hg cF am;refine (Su _ c A n cap r7.out).mono ?_;rintro e wa ⟨s1,rfl,cS,Ha,hua⟩;have HCA:=I Ha;clear Ha;go_wp2_with fail
   refine (Sw _ c A n cap HCA.out).mono ?_;rintro e w3 ⟨s2,rfl,cO,H3,RL⟩;have cP:nN [c] w2 w3:=hua.trans RL;have iA:=I H3;clear H3 HCA hua RL;obtain ⟨y,rfl,rfl⟩:∃y:ao,s1 = y.key/\s2 = y.value:=⟨⟨s1,s2⟩,rfl,rfl⟩;have hy:=And.intro cS cO;have gN:=I (RZ.out.drawn cP ap);have Gi:=I (Gg.out.drawn cP ap);have px:=I (pw.out.trans cP);have ew:=rQ vL.out cP (show c < w1.heap.size by omega);have eB:=cP.size;have qi:w1.heap.size<=w3.heap.size:=J
   go_wp2_with (
    at_builtin
    go_must (refine lC ux J' _ _ J' _ _ _ _ _ ew J' [.string y.key,.string y.value] po J' fm J J qi ?_)
    intro v4 w4 eM pZ Wy;go_must (obtain ⟨A4,c4,hv4⟩:=mY eM)
    go_must (subst hv4)
    go_must (have bm:Below w1.heap.size w3 w4:=lS ew pZ (Below.refl _ _) qi))
   have fG:(xs++[y]).length = xs.length+1:=S';have B7:aY w4 w1.heap.size (xs++[y]) (ds++[.string y.key,.string y.value]) []:=aY.push (B':=w1.heap.size) ⟨o4.out.frame (λb hb=>by cases hb) (by simp;omega),List.nodup_nil,(λb hb=>by cases hb),(λb hb=>by cases hb)⟩ (ai.flat (Ul w4 y (len8 hy.1) (len8 hy.2))) (Nat.le_refl _) (λb hb=>by cases hb);obtain ⟨A5,c5,G5,iF,fH⟩:=ai.oJ (α:=ao) (xs:=xs++[y]) RF B7 (λg _ hm=>by cases hm);rw [fG] at iF;simp only [Value.slice.injEq,true_and] at iF;obtain ⟨rfl,rfl⟩:=iF
   have HS:=aJP (xs++[y]) A4 c4 G5 w4 fH.rd J (λl hl=>by
    rcases List.mem_append.1 hl with hl | hl
    ·have h1:=Bq (f:=ao.wt) hl;have h2:ao.wt l = l.key.size+l.value.size:=rfl;have:=IG Du.out;omega
    ·rw [List.mem_singleton] at hl;subst hl;omega)
   rw [fG] at HS;have j9:=I (iA.out.below bm J);have ng:=I (gN.out.SK bm vI.out);have AJ:=I (Gi.out.keep λg hg=>bm.block g (zB.out g hg));have pF:=I (px.out.sl bm J);have en:=I (λh=>azG (xs:=xs++[y]) h);have Ff:=bm.size;clear fH B7 eM pZ bm ew cP vL o4 iY tp hJ RZ pw r7 iA gN px vI;refine HS.mono ?_;clear HS;generalize BG (xs++[y]) = R at *;obtain ⟨u,b⟩:=R;rintro e w5 ⟨A6,c6,G6,rfl,iD,ev,Jg⟩;have mh:=I (j9.out.ext ev);have tj:=I (ng.out.ext ev);have K0:=I (AJ.out.ext ev);replace Jg:=I Jg;have xj:=I (pF.out.sl ev J);replace iD:=I (iD.mono (B':=w.heap.size) J);have Tp:(k:Int)+1<=3:=J;exact K1
  ·exact yq
theorem ai.PR {w:World} {B:Nat} {k:ByteArray} {op:Int} {vs:List ByteArray} {A:Option Addr} {c:Nat} {G:List Nat} (h:ai w B vs [.slice A vs.length c] G) (hk:k.size<=maxLen) (ho:bt op):ai w B (⟨k,op,vs⟩:aL) [.string k,.int .i64 op,.slice A vs.length c] G:=by
 refine ai.up (B':=B) (λx:aL=>(x.key,x.op,x.values)) ?_ (Nat.le_refl _);exact ai.cons (c1:=[.string k]) (rdStr w k (rV hk)) (ai.cons (c1:=[.int .i64 op]) (jL w op ho) h)
theorem aEd (w:World) (c:Nat) (A:Option Addr) (n cap:Nat) (h:cD w c A n cap) :
 Calls Tryz.prog 97 #[.pointer (some ⟨c,0,none⟩)] w λe w'=>∃(x:aL) (A':Option Addr) (c':Nat) (G:List Nat),e = .returned (.agg #[.string x.key,.int .i64 x.op,.slice A' x.values.length c'])/\ai w' w.heap.size x [.string x.key,.int .i64 x.op,.slice A' x.values.length c'] G/\x.wt<=35/\cD w' c A n cap/\nN [c] w w'/\fe w' w.heap.size 9 1 A' c':=by
 have ap:=h.lt;have HC:=I h;clear h;go_enter Tryz.func97,Tryz.ntmps97;go_wp2_with fail
 refine (Su _ c A n cap (HC.out.ext (ak (aj _) _))).mono ?_;rintro e w1 ⟨s1,rfl,cS,H1,hu1⟩;replace H1:=I H1;go_wp2_with fail
 refine (oe 4 J _ c A n cap H1.out).mono ?_;rintro e w2 ⟨r,rfl,hr,H2,dB⟩;replace H2:=I H2;have X0:=oG.new w [.string ⟨#[]⟩,.int .i64 0,.slice none 0 0] 138;have X2:=(X0.ce hu1 J).ce dB J;have cI:=hu1.size;have ca:=dB.size;simp at cI;have bM:=H2.out.lt;have U2:=I (((nN.lq [c] (ak (aj w) _)).trans hu1).trans dB);have Y2:=oG.new w2 [.string s1,.int .i64 (1+r),.slice none 0 0] 138;replace X2:=X2.ext (ak (aj _) (.cells [.string s1,.int .i64 (1+r),.slice none 0 0].toArray 138));replace U2:=I (U2.out.alloc (.cells #[.string s1,.int .i64 (1+r),.slice none 0 0] 138));have lZ:=I (H2.out.ext (ak (aj _) (.cells #[.string s1,.int .i64 (1+r),.slice none 0 0] 138)));clear X0 hu1 dB H1 H2 HC;have hI:bt (1+(r:Int)):=by unfold bt;omega
 by_cases h3:(1+(r:Int)) < 3
 ·go_wp2_with fail
  go_loopw [4,5] (λv i wr=>∃(xs:List ByteArray) (ds:List Value) (A':Option Addr) (c' k:Nat),v = .slice A' xs.length c'/\i = .int .i64 k/\(k:Int)<=3/\Hid (xs.length = k/\(∀s∈xs,s.size<=8)/\wr.ownsRow (w2.heap.size+1) 9 1 (.slice A' xs.length c') xs.length ds/\jo wr xs ds []/\oG wr w.heap.size [.string ⟨#[]⟩,.int .i64 0,.slice none 0 0]/\oG wr w2.heap.size [.string s1,.int .i64 (1+r),.slice none 0 0]/\cD wr c A n cap/\nN [c] w wr/\w2.heap.size+1<=wr.heap.size)) (λ_ i _=>3 - (intOf i).toNat)
  case atStart =>exact ⟨[],[],_,_,0,rfl,rfl,J,I ⟨rfl,(λs hs=>by cases hs),D9 _ 9 1 _ S',⟨rfl,rfl⟩,X2.ext (ak (aj _) _),Y2.ext (ak (aj _) _),lZ.out.ext (ak (aj _) _),U2.out.alloc _,S'⟩⟩
  case round =>
   obtain ⟨xs,ds,A',c',k,rfl,rfl,hk,HX⟩:=hrel;obtain ⟨M8,cN,bB,cH,hX,hY,hC,hU,hz⟩:=HX.out;have jD:=I bB;have o4:=I cH;have PS:=I hX;have HYB:=I hY;have r7:=I hC;have HU:=I hU;have Eo:=I cN;have nU:(xs.length:Int)<=3:=J;have M9:=I M8;clear bB cH hX hY hC hU cN M8 HX X2 Y2 U2 lZ;go_wp2_with fail
   refine (oe 3 J _ c A n cap r7.out).mono ?_;rintro e w4 ⟨q,rfl,hq,H4,Td⟩;have j9:=I H4;have SL:=I (rQ jD.out Td J);have Gj:=I (PS.out.ce Td J);have zN:=I (HYB.out.ce Td J);have pF:=I (HU.out.trans Td);have Wy:=Td.size;have PT:=I (show jo w4 xs ds [] from o4.out.frame (λb hb=>by cases hb) Wy);clear H4 Td jD PS HYB HU r7 o4;by_cases hkq:(k:Int) < 1+q
   ·go_wp2_with fail
    refine (Sw _ c A n cap j9.out).mono ?_;rintro e w5 ⟨s2,rfl,cO,H5,hu5⟩;have mh:=I H5;have bc:=rQ SL.out hu5 (show c < w2.heap.size+1 by omega);have zP:=I (Gj.out.ce hu5 J);have XT:=I (zN.out.ce hu5 J);have xj:=I (pF.out.trans hu5);have Es:=hu5.size;have HZ5:w2.heap.size+1<=w5.heap.size:=J;clear H5 hu5 SL Gj zN pF j9
    go_wp2_with (
     at_builtin
     go_must (refine lC qw J' _ _ J' _ _ _ _ _ bc J' [.string s2] po J' fm J J HZ5 ?_)
     intro v6 w6 B8 hg6 tg;go_must (obtain ⟨A6,c6,hv6⟩:=mY B8)
     go_must (subst hv6)
     go_must (have ev:Below (w2.heap.size+1) w5 w6:=lS bc hg6 (Below.refl _ _) HZ5))
    have fG:(xs++[s2]).length = xs.length+1:=S';have XU:jo w6 (xs++[s2]) (ds++[.string s2]) []:=(aY.push (B:=w2.heap.size+1) (B':=w2.heap.size+1) ⟨PT.out.frame (λb hb=>by cases hb) J,List.nodup_nil,(λb hb=>by cases hb),(λb hb=>by cases hb)⟩ (ai.flat (rdStr w6 s2 (rV (len8 cO)))) (Nat.le_refl _) (λb hb=>by cases hb)).rd;refine ⟨⟨xs++[s2],ds++[.string s2],A6,c6,k+1,(by rw [fG]),N',J,I ⟨by have:=M9.out;omega,λs hs=>?_,(by rw [fG];exact B8),XU,zP.out.keep (ev.block _ J),XT.out.keep (ev.block _ J),mh.out.below ev J,xj.out.sl ev J,by have:=ev.size;omega⟩⟩,by simp only [intOf];omega⟩;rcases List.mem_append.1 hs with hs | hs
    ·exact Eo.out s hs
    ·rw [List.mem_singleton] at hs;subst hs;exact cO
   ·obtain ⟨A5,c5,G5,iF,fH⟩:=ai.oJ (α:=ByteArray) SL.out ⟨PT.out,List.nodup_nil,(λb hb=>by cases hb),(λb hb=>by cases hb)⟩ (λg _ hm=>by cases hm);simp only [Value.slice.injEq,true_and] at iF;obtain ⟨rfl,rfl⟩:=iF;have tj:=I fH;clear fH SL;go_wp2_with fail
    refine (aJU xs A' c' G5 w4 tj.out.rd J).mono ?_;rintro e w5 ⟨A6,c6,G6,rfl,iD,ev,Jg⟩;have XU:=I (Jg.mono (B':=w2.heap.size+1) J);have Es:=ev.size;have mh:=I (j9.out.ext ev);have xj:=I (pF.out.sl ev J);have B9:=I iD;have hX5:=Gj.out.ext ev;have hY5:=zN.out.ext ev;obtain ⟨XV,fhX5_0,khX5_1,fhX5_1,khX5_2,fhX5_2⟩:=US hX5;obtain ⟨XW,fhY5_0,khY5_1,fhY5_1,khY5_2,fhY5_2⟩:=US hY5;clear hX5 hY5 ev iD Gj zN j9 pF
    have PU:=I (show (⟨s1,1+r,gm xs⟩:aL).wt<=35 from by
     have h1:=aB3 xs;have h2:kL ByteArray.size xs<=3 * (8+1):=BB (n:=3) (b:=8) J Eo.out;show s1.size+kL ByteArray.size (gm xs)<=35
     omega)
    have hlv:(gm xs).length<=xs.length:=aAP xs;generalize gm xs = vs at *;go_wp2;refine bodyPost_ret (v:=.agg #[.string s1,.int .i64 (1+r),.slice A6 vs.length c6]) (by simp [results,Tryz.results97,go_sem, *]) rfl ?_;have cY:w.heap.size < w4.heap.size:=J;have aR:w2.heap.size < w4.heap.size:=J;exact ⟨⟨s1,1+r,vs⟩,A6,c6,G6,rfl,ai.PR ((((((B9.out.setCell (p:=⟨w2.heap.size,2,none⟩) aR _).setCell (p:=⟨w.heap.size,0,none⟩) cY _).setCell (p:=⟨w.heap.size,1,none⟩) cY _).setCell (p:=⟨w.heap.size,2,none⟩) cY _)).mono J) (len8 cS) hI,PU.out,(((mh.out.bL J 2 _).bL ap 0 _).bL ap 1 _).bL ap 2 _,(((xj.out.new J 2 _).new (Nat.le_refl _) 0 _).new (Nat.le_refl _) 1 _).new (Nat.le_refl _) 2 _,((((XU.out.bL J 2 _).bL J 0 _).bL J 1 _).bL J 2 _).mono J⟩
 ·have HX2:=X2;have DY:=Y2;obtain ⟨XY,fHX2_0,kHX2_1,fHX2_1,kHX2_2,fHX2_2⟩:=US HX2;clear HX2 DY X2 Y2;go_wp2;refine bodyPost_ret (v:=.agg #[.string s1,.int .i64 (1+r),.slice none 0 0]) (by simp [results,Tryz.results97,go_sem, *]) rfl ?_;exact ⟨⟨s1,1+r,[]⟩,none,0,[],rfl,ai.PR (ai.flat (Sl.nil _ none 0 (Nat.zero_le _))) (len8 cS) hI,(by show s1.size+0<=35;omega),(((lZ.out.bL ap 0 _).bL ap 1 _).bL ap 2 _),((U2.out.new (Nat.le_refl _) 0 _).new (Nat.le_refl _) 1 _).new (Nat.le_refl _) 2 _,.inl ⟨rfl,rfl⟩⟩
theorem aEe (w:World) (c:Nat) (A:Option Addr) (n cap:Nat) (h:cD w c A n cap) :
 Calls Tryz.prog 97 #[.pointer (some ⟨c,0,none⟩)] w λe w'=>∃(x:aL) (A':Option Addr) (c':Nat) (G:List Nat),e = .returned (.agg #[.string x.key,.int .i64 x.op,.slice A' x.values.length c'])/\ai w' w.heap.size x [.string x.key,.int .i64 x.op,.slice A' x.values.length c'] G/\x.wt<=35/\cD w' c A n cap/\nN [c] w w' :=
 (aEd w c A n cap h).mono λ_ _ ⟨xs,A',c',G,a,b,d,e,f,_⟩=>⟨xs,A',c',G,a,b,d,e,f⟩
theorem aAj {xs:List aL} (h:(jA xs).2 = true):lN (jA xs).1 = true:=by
 unfold jA at h |-;split
 ·rename_i h2;exact h2.2.2
 ·rename_i h2;rw [if_neg h2] at h;cases h
theorem vM (w:World) (c:Nat) (A:Option Addr) (n cap:Nat) (h:cD w c A n cap) :
 Calls Tryz.prog 59 #[.pointer (some ⟨c,0,none⟩)] w λe w'=>∃(xs:List aL) (A':Option Addr) (c':Nat) (G:List Nat),e = .returned (.slice A' xs.length c')/\ai w' w.heap.size xs [.slice A' xs.length c'] G/\lN xs = true/\cD w' c A n cap/\nN [c] w w'/\fe w' w.heap.size 138 3 A' c':=by
 have ap:=h.lt;have HC:=I h;clear h;go_enter Tryz.func59,Tryz.ntmps59;go_wp2_with fail
 go_loopw [3,4] (λv i wr=>∃(xs:List aL) (A':Option Addr) (c':Nat) (G:List Nat) (k:Nat),v = .slice A' xs.length c'/\i = .int .i64 k/\(k:Int)<=2/\ai wr w.heap.size xs [.slice A' xs.length c'] G/\Hid (lN xs = true)/\cD wr c A n cap/\nN [c] w wr/\Hid (fe wr w.heap.size 138 3 A' c')) (λ_ i _=>2 - (intOf i).toNat)
 case atStart =>obtain ⟨A',c',G,hv,hO⟩:=ai.oJ (α:=aL) (D9 w 138 3 w.heap.size rfl) (aY.nil _ _) (λg _ hm=>by cases hm);simp only [Value.slice.injEq,List.length_nil] at hv;obtain ⟨rfl,_,rfl⟩:=hv;exact ⟨[],_,_,G,0,rfl,rfl,J,hO,I rfl,HC.out.ext (ak (aj _) _),nN.lq _ (ak (aj _) _),I (fe.oJ (D9 w 138 3 w.heap.size rfl) (Nat.le_refl _))⟩
 case round =>
  obtain ⟨xs,A',c',G,k,rfl,rfl,hk,hO,Du,hcur,hur,n9⟩:=hrel;have HO:=I hO;have vF:=I hcur;have vG:=I hur;have qa:=hur.size;have XS:(xs.length:Int)<=460:=by have h1:=gJ aL.wt xs;have:=St Du.out;omega
  clear hO hcur hur;go_wp2_with fail
  refine (oe 3 J _ c A n cap vF.out).mono ?_;rintro e w1 ⟨r,rfl,hr,H1,hu1⟩;have iY:=I (HO.out.drawn hu1 ap);have tp:=I (vG.out.trans hu1);have tt:=I (n9.out.drawn hu1 ap);have cI:=hu1.size;have hJ:=I H1;clear H1 hu1 HO vF vG n9;by_cases hkr:(k:Int) < r
  ·have vI:=I iY.out.lt;have zB:=I tt.out.lt;have cU:=hJ.out.lt;have PU:=I (show ∀l∈xs,l.wt<=460 from λl hl=>by have h1:=Bq (f:=aL.wt) hl;have:=St Du.out;omega);go_wp2_with fail
   refine (ayq xs A' c' G w1 iY.out.rd J (λl hl=>by have h1:=PU.out l hl;have h2:l.wt = l.key.size+kL ByteArray.size l.values:=rfl;have h3:=gJ ByteArray.size l.values;omega)).mono ?_;rintro e w2 ⟨v2,ds,F2,rfl,hrow2,hcs2,ua,am⟩;obtain ⟨A2,c2,eO⟩:=mY hrow2;subst eO;have HLR:=I (λg hg=>(hrow2.lt g hg).2);have il:=I hcs2.lt;have vL:=I hrow2;have Gk:=I hcs2;have PV:=I ua;have lZ:=I (hJ.out.ext am);have RZ:=I (iY.out.ext am);have Gg:=I (tt.out.ext am);have pw:=I (tp.out.sl am J);have ca:=am.size;clear hrow2 hcs2 ua am;go_wp2_with fail
   refine (aEe w2 c A n cap lZ.out).mono ?_;rintro e w3 ⟨y,Ay,cy,Gy,rfl,zt,hwy,H3,cP⟩;have iA:=I H3;have r8:=rQ vL.out cP (show c < w1.heap.size by omega);have PZ:=I (Gk.out.keep (w':=w3) (λb hb=>cP.block b (il.out b hb) (λhm=>by have:=Gk.out.base b hb;rw [List.mem_singleton] at hm;omega)) cP.size);have IC:=I zt;have gN:=I (RZ.out.drawn cP ap);have Gi:=I (Gg.out.drawn cP ap);have px:=I (pw.out.trans cP);have eB:=cP.size;have qi:w1.heap.size<=w3.heap.size:=J;clear H3 zt lZ vL Gk RZ pw cP
   go_wp2_with (
    at_builtin
    go_must (refine uf xU J' _ _ J' _ _ _ _ _ r8 J' [.string y.key,.int .i64 y.op,.slice Ay y.values.length cy] po J' fm J J qi ?_)
    intro v4 w4 eM pZ Wy zm;go_must (obtain ⟨A4,c4,hv4⟩:=mY eM)
    go_must (subst hv4)
    go_must (have bm:Below w1.heap.size w3 w4:=lS r8 pZ (Below.refl _ _) qi))
   have fG:(xs++[y]).length = xs.length+1:=S';obtain ⟨uZ,hne4⟩:=aY.Ri r8 PZ.out PV.out IC.out J HLR.out il.out pZ zm;obtain ⟨A5,c5,G5,iF,fH⟩:=ai.oJ (α:=aL) (xs:=xs++[y]) RF uZ hne4;rw [fG] at iF;simp only [Value.slice.injEq,true_and] at iF;obtain ⟨rfl,rfl⟩:=iF
   have HS:=aJV (xs++[y]) A4 c4 G5 w4 fH.rd J (λl hl=>by
    rcases List.mem_append.1 hl with hl | hl
    ·have:=PU.out l hl;omega
    ·rw [List.mem_singleton] at hl;subst hl;omega)
   rw [fG] at HS;have j9:=I (iA.out.below bm J);have ng:=I (gN.out.SK bm vI.out);have AJ:=I (Gi.out.keep λg hg=>bm.block g (zB.out g hg));have pF:=I (px.out.sl bm J);have en:=I (λh=>aAj (xs:=xs++[y]) h);have Ff:=bm.size;clear fH uZ hne4 eM pZ bm r8 iY tp hJ iA gN px vI IC PZ PV HLR il PU zm;refine HS.mono ?_;clear HS;generalize jA (xs++[y]) = R at *;exact Db
  ·exact yq
theorem ai.P0 {w:World} {B1 B2 B3:Nat} {nm:ByteArray} {ls:List ao} {a m r:Int} {ns:List aL} {ts:List bH} {Al An At:Option Addr} {cl cn ct:Nat} {Gl Gn Gt:List Nat} (h1:ai w B1 ls [.slice Al ls.length cl] Gl) (h2:ai w B2 ns [.slice An ns.length cn] Gn) (h3:ai w B3 ts [.slice At ts.length ct] Gt) (hB:B1<=B2) (gL:B2<=B3) (hF:∀b∈Gl,b < B2) (mI:∀b∈Gn,b < B3) (hn:nm.size<=maxLen) (ha:bt a) (hm:bt m) (hr:bt r) :
 ai w B1 (⟨nm,ls,a,m,r,ns,ts⟩:nI) [.string nm,.slice Al ls.length cl,.int .i64 a,.int .i64 m,.int .i64 r,.slice An ns.length cn,.slice At ts.length ct] (Gl++(Gn++Gt)):=by
 refine ai.up (B':=B1) (λx:nI=>(x.name,x.labels,x.aq,x.mem,x.av,x.af,x.ae)) ?_ (Nat.le_refl _);refine ai.cons (c1:=[.string nm]) (rdStr _ nm (rV hn)) ?_;exact ai.pair h1 (ai.cons (c1:=[.int .i64 a]) (jL _ a ha) (ai.cons (c1:=[.int .i64 m]) (jL _ m hm) (ai.cons (c1:=[.int .i64 r]) (jL _ r hr) (ai.pair h2 h3 gL mI)))) hB hF
theorem ai.qk {w:World} {B1 B2:Nat} {nm:ByteArray} {ls:List ao} {a m r:Int} {ts:List iU} {Al At:Option Addr} {cl ct:Nat} {Gl Gt:List Nat} (h1:ai w B1 ls [.slice Al ls.length cl] Gl) (h3:ai w B2 ts [.slice At ts.length ct] Gt) (hB:B1<=B2) (hF:∀b∈Gl,b < B2) (hn:nm.size<=maxLen) (ha:bt a) (hm:bt m) (hr:bt r) :
 ai w B1 (⟨nm,ls,a,m,r,ts⟩:ba) [.string nm,.slice Al ls.length cl,.int .i64 a,.int .i64 m,.int .i64 r,.slice At ts.length ct] (Gl++Gt):=by
 refine ai.up (B':=B1) (λx:ba=>(x.name,x.labels,x.aq,x.mem,x.slots,x.aT)) ?_ (Nat.le_refl _);refine ai.cons (c1:=[.string nm]) (rdStr _ nm (rV hn)) ?_;exact ai.pair h1 (ai.cons (c1:=[.int .i64 a]) (jL _ a ha) (ai.cons (c1:=[.int .i64 m]) (jL _ m hm) (ai.cons (c1:=[.int .i64 r]) (jL _ r hr) h3))) hB hF
theorem lv {nm:ByteArray} {ls:List ao} {a m r:Int} {ns:List aL} {ts:List bH} (h1:Qs nm = true) (h2:sD ls = true) (h3:lN ns = true) (h4:Ya ts = true) (ha:0<=a) (hm:0<=m) (hr:0<=r/\r<=1000):GU ⟨nm,ls,a,m,r,ns,ts⟩ = true:=by
 unfold GU;simp [h1,h2,h3,h4,ha,hm,hr.1,hr.2]
theorem pa {nm:ByteArray} {ls:List ao} {a m r:Int} {ts:List iU} (h1:Qs nm = true) (h2:sD ls = true) (h4:La ts = true) (ha:0<=a) (hm:0<=m) (hr:1<=r/\r<=20):Aj ⟨nm,ls,a,m,r,ts⟩ = true:=by
 unfold Aj;simp [h1,h2,h4,ha,hm,hr.1,hr.2]
theorem sX (nm:ByteArray) (nE:nm.size<=8) (w:World) (c:Nat) (A:Option Addr) (n cap:Nat) (h:cD w c A n cap) :
 Calls Tryz.prog 28 #[.pointer (some ⟨c,0,none⟩),.string nm] w λe w'=>∃(x:nI) (cs:List Value) (G:List Nat),e = .returned (.agg cs.toArray)/\ai w' w.heap.size x cs G/\(x.wt<=1000/\(Qs nm = true->GU x = true))/\cD w' c A n cap/\nN [c] w w':=by
 have ap:=h.lt;have HC:=I h;clear h;go_enter Tryz.func28,Tryz.ntmps28;go_wp2_with fail
 refine (mT _ c A n cap (HC.out.ext (ak (aj _) _))).mono ?_;rintro e w1 ⟨ls,Al,cl,Gl,rfl,hOl,eZ,H1,hu1,_⟩;have XF:=IG eZ;have xD:=I eZ;clear eZ;have vN:=I hOl;have il:=I hOl.lt;have X1:=I ((oG.new w [.string ⟨#[]⟩,.slice none 0 0,.int .i64 0,.int .i64 0,.int .i64 0,.slice none 0 0,.slice none 0 0] 35).ce hu1 J);have U1:=I ((nN.lq [c] (ak (aj w) _)).trans hu1);have hJ:=I H1;have cI:=hu1.size;simp at cI;have qm:c < (w.alloc (.cells #[.string ⟨#[]⟩,.slice none 0 0,.int .i64 0,.int .i64 0,.int .i64 0,.slice none 0 0,.slice none 0 0] 35)).heap.size:=by simp;omega
 clear hOl H1 hu1 HC;go_wp2_with fail
 refine (ayu _ c A n cap hJ.out).mono ?_;rintro e w2 ⟨a1,rfl,ha1,H2,dB⟩;have vQ:=I (vN.out.drawn dB qm);have X2:=I (X1.out.ce dB J);have U2:=I (U1.out.trans dB);have lZ:=I H2;have ca:=dB.size;clear H2 dB vN X1 U1 hJ;go_wp2_with fail
 refine (ayu _ c A n cap lZ.out).mono ?_;rintro e w3 ⟨a2,rfl,ha2,H3,cP⟩;have vR:=I (vQ.out.drawn cP qm);have X3:=I (X2.out.ce cP J);have U3:=I (U2.out.trans cP);have iA:=I H3;have eB:=cP.size;clear H3 cP vQ X2 U2 lZ;go_wp2_with fail
 refine (WA (λs=>0<=s/\s<=1000) w3.heap.size 5 _ J _ c A n cap (iA.out.ext (ak (aj _) _)) J S' (λk hk=>?_)).mono ?_
 ·have so:k = 0∨k = 1∨k = 2∨k = 3∨k = 4:=by omega
  rcases so with rfl | rfl | rfl | rfl | rfl <;> exact ⟨_,Mk _ _ _ _ _ rfl,J⟩
 rintro e w4 ⟨rk,rfl,hrk,H4,Td⟩;have vW:=I ((vR.out.ext (ak (aj _) _)).drawn Td qm);have X4:=I ((X3.out.ext (ak (aj _) _)).ce Td J);have U4:=I ((U3.out.alloc _).trans Td);have j9:=I H4;have Wy:=Td.size;simp at Wy;have ee:=H4.lt;clear H4 Td vR X3 U3 iA;have Y4:=I (oG.new w4 [.string nm,.slice Al ls.length cl,.int .i64 a1,.int .i64 a2,.int .i64 rk,.slice none 0 0,.slice none 0 0] 35);have P1:=I (X4.out.ext (ak (aj _) (.cells ([.string nm,.slice Al ls.length cl,.int .i64 a1,.int .i64 a2,.int .i64 rk,.slice none 0 0,.slice none 0 0]:List Value).toArray 35)));have Gq:bt a1:=by unfold bt;omega
 have Gs:bt a2:=by unfold bt;omega
 have TR:bt rk:=by unfold bt;omega
 go_wp2_with fail
 refine (FK 2 J _ c A n cap (j9.out.ext (ak (aj _) _))).mono ?_;rintro e w5 ⟨b,rfl,H5,hu5⟩;have Ca:=I ((vW.out.ext (ak (aj _) _)).drawn hu5 qm);have X5:=I (P1.out.ce hu5 J);have Y5:=I (Y4.out.ce hu5 J);have U5:=I ((U4.out.alloc _).trans hu5);have mh:=I H5;have Es:=hu5.size;simp at Es;clear H5 hu5 vW X4 P1 Y4 U4 j9;cases b
 ·go_wp2_with fail
  refine (FK 2 J _ c A n cap mh.out).mono ?_;rintro e w6 ⟨b,rfl,H6,Ze⟩;have sY:=I (Ca.out.drawn Ze qm);have X6:=I (X5.out.ce Ze J);have Y6:=I (Y5.out.ce Ze J);have U6:=I (U5.out.trans Ze);have xH:=I H6;have tg:=Ze.size;clear H6 Ze Ca X5 Y5 U5 mh;cases b
  ·have xx:=X6.out;have yy:=Y6.out;obtain ⟨Gx,azr,azs,azt,azu,azv,azw,azx,azy,azz,azA,azB,aEY,aEZ⟩:=zd xx;obtain ⟨xL,aAC,aAD,aAE,aAF,aAG,aAH,aAI,aAJ,aAK,aAL,aAM,aE0,aE1⟩:=zd yy;clear xx yy X6 Y6;have Cd:w4.heap.size∉Gl:=λhm=>by have:=il.out _ hm;omega
   go_wp2;refine bodyPost_ret (v:=.agg #[.string nm,.slice Al ls.length cl,.int .i64 a1,.int .i64 a2,.int .i64 rk,.slice none 0 0,.slice none 0 0]) (by simp [results,Tryz.results28,go_sem, *]) rfl ?_;have ky:(w.alloc (.cells #[.string ⟨#[]⟩,.slice none 0 0,.int .i64 0,.int .i64 0,.int .i64 0,.slice none 0 0,.slice none 0 0] 35)).heap.size = w.heap.size+1:=S';have cR:=λb hb=>il.out b hb;exact ⟨⟨nm,ls,a1,a2,rk,[],[]⟩,[.string nm,.slice Al ls.length cl,.int .i64 a1,.int .i64 a2,.int .i64 rk,.slice none 0 0,.slice none 0 0],_,rfl,(ai.P0 (((((((sY.out.setCell (p:=⟨w.heap.size,0,none⟩) bx _).setCell (p:=⟨w.heap.size,1,none⟩) bx _).setCell (p:=⟨w.heap.size,2,none⟩) bx _).setCell (p:=⟨w.heap.size,3,none⟩) bx _).setCell (p:=⟨w.heap.size,4,none⟩) bx _).setCell (p:=⟨w.heap.size,5,none⟩) bx _).setCell (p:=⟨w.heap.size,6,none⟩) bx _) (ai.flat (B:=w4.heap.size) (Sl.nil _ none 0 (Nat.zero_le _))) (ai.flat (B:=w4.heap.size) (Sl.nil _ none 0 (Nat.zero_le _))) J J (λb hb=>by have:=cR b hb;omega) (λb hb=>by cases hb) (len8 nE) Gq Gs TR).mono J,⟨(by show nm.size+kL ao.wt ls+0+0<=1000;omega),λhn=>lv hn xD.out rfl rfl ha1.1 ha2.1 hrk⟩,(((((((xH.out.bL J 0 _).bL J 1 _).bL J 2 _).bL J 3 _).bL J 4 _).bL J 5 _).bL J 6 _),(((((((U6.out.new J 0 _).new J 1 _).new J 2 _).new J 3 _).new J 4 _).new J 5 _).new J 6 _)⟩
  ·go_wp2_with fail
   refine (hZ _ c A n cap xH.out).mono ?_;rintro e w7 ⟨ts,At,ct,Gt,rfl,hOt,htt,H7,WL,_⟩;have ie:=Pm htt;have P2:=I htt;clear htt;have GA:=I (sY.out.drawn WL qm);have X7:=I (X6.out.ce WL J);have Y7:=I (Y6.out.ce WL J);have U7:=I (U6.out.trans WL);have XZ:=I hOt;have vX:=I H7;have rm:=WL.size;clear H7 WL sY X6 Y6 U6 xH hOt;have xx:=X7.out;have yy:=Y7.out;obtain ⟨Gx,azr,azs,azt,azu,azv,azw,azx,azy,azz,azA,azB,aEY,aEZ⟩:=zd xx;obtain ⟨xL,aAC,aAD,aAE,aAF,aAG,aAH,aAI,aAJ,aAK,aAL,aAM,aE0,aE1⟩:=zd yy;clear xx yy X7 Y7;have Cd:w4.heap.size∉Gl:=λhm=>by have:=il.out _ hm;omega
   go_wp2;refine bodyPost_ret (v:=.agg #[.string nm,.slice Al ls.length cl,.int .i64 a1,.int .i64 a2,.int .i64 rk,.slice none 0 0,.slice At ts.length ct]) (by simp [results,Tryz.results28,go_sem, *]) rfl ?_;have ky:(w.alloc (.cells #[.string ⟨#[]⟩,.slice none 0 0,.int .i64 0,.int .i64 0,.int .i64 0,.slice none 0 0,.slice none 0 0] 35)).heap.size = w.heap.size+1:=S';have cR:=λb hb=>il.out b hb;exact ⟨⟨nm,ls,a1,a2,rk,[],ts⟩,[.string nm,.slice Al ls.length cl,.int .i64 a1,.int .i64 a2,.int .i64 rk,.slice none 0 0,.slice At ts.length ct],_,rfl,(ai.P0 ((((((((GA.out.JA (p:=⟨w4.heap.size,6,none⟩) Cd _).setCell (p:=⟨w.heap.size,0,none⟩) bx _).setCell (p:=⟨w.heap.size,1,none⟩) bx _).setCell (p:=⟨w.heap.size,2,none⟩) bx _).setCell (p:=⟨w.heap.size,3,none⟩) bx _).setCell (p:=⟨w.heap.size,4,none⟩) bx _).setCell (p:=⟨w.heap.size,5,none⟩) bx _).setCell (p:=⟨w.heap.size,6,none⟩) bx _) (ai.flat (B:=w6.heap.size) (Sl.nil _ none 0 (Nat.zero_le _))) ((((((((XZ.out.setCell (p:=⟨w4.heap.size,6,none⟩) bx _).setCell (p:=⟨w.heap.size,0,none⟩) bx _).setCell (p:=⟨w.heap.size,1,none⟩) bx _).setCell (p:=⟨w.heap.size,2,none⟩) bx _).setCell (p:=⟨w.heap.size,3,none⟩) bx _).setCell (p:=⟨w.heap.size,4,none⟩) bx _).setCell (p:=⟨w.heap.size,5,none⟩) bx _).setCell (p:=⟨w.heap.size,6,none⟩) bx _) J J (λb hb=>by have:=cR b hb;omega) (λb hb=>by cases hb) (len8 nE) Gq Gs TR).mono J,⟨(by show nm.size+kL ao.wt ls+0+kL bH.wt ts<=1000;omega),λhn=>lv hn xD.out rfl P2.out ha1.1 ha2.1 hrk⟩,((((((((vX.out.bL J 6 _).bL J 0 _).bL J 1 _).bL J 2 _).bL J 3 _).bL J 4 _).bL J 5 _).bL J 6 _),((((((((U7.out.new J 6 _).new J 0 _).new J 1 _).new J 2 _).new J 3 _).new J 4 _).new J 5 _).new J 6 _)⟩
 ·go_wp2_with fail
  refine (vM _ c A n cap mh.out).mono ?_;rintro e w6 ⟨ns,An,cn,Gn,rfl,tD,hnn,H6,Ze,_⟩;have hwn:=St hnn;have MO:=I hnn;clear hnn;have sY:=I (Ca.out.drawn Ze qm);have X6:=I (X5.out.ce Ze J);have Y6:=Y5.out.ce Ze J;have U6:=I (U5.out.trans Ze);have HN6:=I tD;have HNF:=I tD.lt;have xH:=I H6;have tg:=Ze.size;clear H6 Ze Ca X5 Y5 U5 mh tD;have uG:w4.heap.size∉Gl:=λhm=>by have:=il.out _ hm;omega
  obtain ⟨aE2,aE3,aE4,aE5,aE6,aE7,aE8,aE9,aFa,aFb,aFc,aFd,kY6_6,fY6_6⟩:=zd Y6;go_wp2_with fail
  refine (FK 2 J _ c A n cap (xH.out.bL J 5 _)).mono ?_;rintro e w7 ⟨b,rfl,H7,WL⟩;have GA:=I ((sY.out.JA (p:=⟨w4.heap.size,5,none⟩) uG _).drawn WL qm);have X9:=I ((HN6.out.setCell (p:=⟨w4.heap.size,5,none⟩) (show w4.heap.size < w5.heap.size by omega) _).drawn WL J);have X7:=I ((X6.out.bL J 5 _).ce WL J);have Y7:=I ((Y6.put 5 _).ce WL J);have U7:=I ((U6.out.new J 5 _).trans WL);have vX:=I H7;have rm:=WL.size;simp [World.setCell] at rm;clear aE2 aE3 aE4 aE5 aE6 aE7 aE8 aE9 aFa aFb aFc aFd kY6_6 fY6_6;clear H7 WL sY X6 Y6 U6 xH HN6;cases b
  ·have xx:=X7.out;have yy:=Y7.out;obtain ⟨Gx,azr,azs,azt,azu,azv,azw,azx,azy,azz,azA,azB,aEY,aEZ⟩:=zd xx;obtain ⟨xL,aAC,aAD,aAE,aAF,aAG,aAH,aAI,aAJ,aAK,aAL,aAM,aE0,aE1⟩:=zd yy;clear xx yy X7 Y7;have Cd:w4.heap.size∉Gl:=λhm=>by have:=il.out _ hm;omega
   go_wp2;refine bodyPost_ret (v:=.agg #[.string nm,.slice Al ls.length cl,.int .i64 a1,.int .i64 a2,.int .i64 rk,.slice An ns.length cn,.slice none 0 0]) (by simp [results,Tryz.results28,go_sem, *]) rfl ?_;have ky:(w.alloc (.cells #[.string ⟨#[]⟩,.slice none 0 0,.int .i64 0,.int .i64 0,.int .i64 0,.slice none 0 0,.slice none 0 0] 35)).heap.size = w.heap.size+1:=S';have cR:=λb hb=>il.out b hb;have kq:=λb hb=>HNF.out b hb;exact ⟨⟨nm,ls,a1,a2,rk,ns,[]⟩,[.string nm,.slice Al ls.length cl,.int .i64 a1,.int .i64 a2,.int .i64 rk,.slice An ns.length cn,.slice none 0 0],_,rfl,(ai.P0 (((((((GA.out.setCell (p:=⟨w.heap.size,0,none⟩) bx _).setCell (p:=⟨w.heap.size,1,none⟩) bx _).setCell (p:=⟨w.heap.size,2,none⟩) bx _).setCell (p:=⟨w.heap.size,3,none⟩) bx _).setCell (p:=⟨w.heap.size,4,none⟩) bx _).setCell (p:=⟨w.heap.size,5,none⟩) bx _).setCell (p:=⟨w.heap.size,6,none⟩) bx _) (((((((X9.out.setCell (p:=⟨w.heap.size,0,none⟩) bx _).setCell (p:=⟨w.heap.size,1,none⟩) bx _).setCell (p:=⟨w.heap.size,2,none⟩) bx _).setCell (p:=⟨w.heap.size,3,none⟩) bx _).setCell (p:=⟨w.heap.size,4,none⟩) bx _).setCell (p:=⟨w.heap.size,5,none⟩) bx _).setCell (p:=⟨w.heap.size,6,none⟩) bx _) (ai.flat (B:=w7.heap.size) (Sl.nil _ none 0 (Nat.zero_le _))) J J (λb hb=>by have:=cR b hb;omega) (λb hb=>by have:=kq b hb;omega) (len8 nE) Gq Gs TR).mono J,⟨(by show nm.size+kL ao.wt ls+kL aL.wt ns+0<=1000;omega),λhn=>lv hn xD.out MO.out rfl ha1.1 ha2.1 hrk⟩,(((((((vX.out.bL J 0 _).bL J 1 _).bL J 2 _).bL J 3 _).bL J 4 _).bL J 5 _).bL J 6 _),(((((((U7.out.new J 0 _).new J 1 _).new J 2 _).new J 3 _).new J 4 _).new J 5 _).new J 6 _)⟩
  ·go_wp2_with fail
   refine (hZ _ c A n cap vX.out).mono ?_;rintro e w8 ⟨ts,At,ct,Gt,rfl,hOt,htt,H8,Ub,_⟩;have ie:=Pm htt;have P2:=I htt;clear htt;have X':=I (GA.out.drawn Ub qm);have HN8:=I (X9.out.drawn Ub J);have X8:=I (X7.out.ce Ub J);have Y8:=I (Y7.out.ce Ub J);have U8:=I (U7.out.trans Ub);have xe:=I hOt;have HC8:=I H8;have Dd:=Ub.size;clear H8 Ub GA X7 Y7 U7 vX hOt X9;have xx:=X8.out;have yy:=Y8.out;obtain ⟨Gx,azr,azs,azt,azu,azv,azw,azx,azy,azz,azA,azB,aEY,aEZ⟩:=zd xx;obtain ⟨xL,aAC,aAD,aAE,aAF,aAG,aAH,aAI,aAJ,aAK,aAL,aAM,aE0,aE1⟩:=zd yy;clear xx yy X8 Y8;have Cd:w4.heap.size∉Gl:=λhm=>by have:=il.out _ hm;omega
   go_wp2;refine bodyPost_ret (v:=.agg #[.string nm,.slice Al ls.length cl,.int .i64 a1,.int .i64 a2,.int .i64 rk,.slice An ns.length cn,.slice At ts.length ct]) (by simp [results,Tryz.results28,go_sem, *]) rfl ?_;have ky:(w.alloc (.cells #[.string ⟨#[]⟩,.slice none 0 0,.int .i64 0,.int .i64 0,.int .i64 0,.slice none 0 0,.slice none 0 0] 35)).heap.size = w.heap.size+1:=S';have cR:=λb hb=>il.out b hb;have kq:=λb hb=>HNF.out b hb;exact ⟨⟨nm,ls,a1,a2,rk,ns,ts⟩,[.string nm,.slice Al ls.length cl,.int .i64 a1,.int .i64 a2,.int .i64 rk,.slice An ns.length cn,.slice At ts.length ct],_,rfl,(ai.P0 ((((((((X'.out.JA (p:=⟨w4.heap.size,6,none⟩) Cd _).setCell (p:=⟨w.heap.size,0,none⟩) bx _).setCell (p:=⟨w.heap.size,1,none⟩) bx _).setCell (p:=⟨w.heap.size,2,none⟩) bx _).setCell (p:=⟨w.heap.size,3,none⟩) bx _).setCell (p:=⟨w.heap.size,4,none⟩) bx _).setCell (p:=⟨w.heap.size,5,none⟩) bx _).setCell (p:=⟨w.heap.size,6,none⟩) bx _) ((((((((HN8.out.setCell (p:=⟨w4.heap.size,6,none⟩) bx _).setCell (p:=⟨w.heap.size,0,none⟩) bx _).setCell (p:=⟨w.heap.size,1,none⟩) bx _).setCell (p:=⟨w.heap.size,2,none⟩) bx _).setCell (p:=⟨w.heap.size,3,none⟩) bx _).setCell (p:=⟨w.heap.size,4,none⟩) bx _).setCell (p:=⟨w.heap.size,5,none⟩) bx _).setCell (p:=⟨w.heap.size,6,none⟩) bx _) ((((((((xe.out.setCell (p:=⟨w4.heap.size,6,none⟩) bx _).setCell (p:=⟨w.heap.size,0,none⟩) bx _).setCell (p:=⟨w.heap.size,1,none⟩) bx _).setCell (p:=⟨w.heap.size,2,none⟩) bx _).setCell (p:=⟨w.heap.size,3,none⟩) bx _).setCell (p:=⟨w.heap.size,4,none⟩) bx _).setCell (p:=⟨w.heap.size,5,none⟩) bx _).setCell (p:=⟨w.heap.size,6,none⟩) bx _) J J (λb hb=>by have:=cR b hb;omega) (λb hb=>by have:=kq b hb;omega) (len8 nE) Gq Gs TR).mono J,⟨(by show nm.size+kL ao.wt ls+kL aL.wt ns+kL bH.wt ts<=1000;omega),λhn=>lv hn xD.out MO.out P2.out ha1.1 ha2.1 hrk⟩,((((((((HC8.out.bL J 6 _).bL J 0 _).bL J 1 _).bL J 2 _).bL J 3 _).bL J 4 _).bL J 5 _).bL J 6 _),((((((((U8.out.new J 6 _).new J 0 _).new J 1 _).new J 2 _).new J 3 _).new J 4 _).new J 5 _).new J 6 _)⟩
theorem qn (nm:ByteArray) (nE:nm.size<=8) (w:World) (c:Nat) (A:Option Addr) (n cap:Nat) (h:cD w c A n cap) :
 Calls Tryz.prog 30 #[.pointer (some ⟨c,0,none⟩),.string nm] w λe w'=>∃(x:ba) (cs:List Value) (G:List Nat),e = .returned (.agg cs.toArray)/\ai w' w.heap.size x cs G/\(x.wt<=1000/\(Qs nm = true->Aj x = true))/\x.name = nm/\cD w' c A n cap/\nN [c] w w':=by
 have ap:=h.lt;have HC:=I h;clear h;go_enter Tryz.func30,Tryz.ntmps30;go_wp2_with fail
 refine (mT _ c A n cap (HC.out.ext (ak (aj _) _))).mono ?_;rintro e w1 ⟨ls,Al,cl,Gl,rfl,hOl,eZ,H1,hu1,_⟩;have XF:=IG eZ;have xD:=I eZ;clear eZ;have vN:=I hOl;have il:=I hOl.lt;have X1:=I ((oG.new w [.string ⟨#[]⟩,.slice none 0 0,.int .i64 0,.int .i64 0,.int .i64 0,.slice none 0 0] 38).ce hu1 J);have U1:=I ((nN.lq [c] (ak (aj w) _)).trans hu1);have hJ:=I H1;have cI:=hu1.size;simp at cI;have qm:c < (w.alloc (.cells #[.string ⟨#[]⟩,.slice none 0 0,.int .i64 0,.int .i64 0,.int .i64 0,.slice none 0 0] 38)).heap.size:=by simp;omega
 clear hOl H1 hu1 HC;go_wp2_with fail
 refine (oe 5 J _ c A n cap hJ.out).mono ?_;rintro e w2 ⟨a1,rfl,ha1,H2,dB⟩;have vQ:=I (vN.out.drawn dB qm);have X2:=I (X1.out.ce dB J);have U2:=I (U1.out.trans dB);have lZ:=I H2;have ca:=dB.size;clear H2 dB vN X1 U1 hJ;go_wp2_with fail
 refine (oe 5 J _ c A n cap lZ.out).mono ?_;rintro e w3 ⟨a2,rfl,ha2,H3,cP⟩;have vR:=I (vQ.out.drawn cP qm);have X3:=I (X2.out.ce cP J);have U3:=I (U2.out.trans cP);have iA:=I H3;have eB:=cP.size;clear H3 cP vQ X2 U2 lZ;go_wp2_with fail
 refine (oe 4 J _ c A n cap iA.out).mono ?_;rintro e w4 ⟨a3,rfl,ha3,H4,Td⟩;have vW:=I (vR.out.drawn Td qm);have X4:=I (X3.out.ce Td J);have U4:=I (U3.out.trans Td);have j9:=I H4;have Wy:=Td.size;clear H4 Td vR X3 U3 iA;have Y4:=I (oG.new w4 [.string nm,.slice Al ls.length cl,.int .i64 (1000 * (1+a1)),.int .i64 (1000 * (1+a2)),.int .i64 (1+a3),.slice none 0 0] 38);have P1:=I (X4.out.ext (ak (aj _) (.cells ([.string nm,.slice Al ls.length cl,.int .i64 (1000 * (1+a1)),.int .i64 (1000 * (1+a2)),.int .i64 (1+a3),.slice none 0 0]:List Value).toArray 38)));have ee:=j9.out.lt;have Gq:bt (1000 * (1+(a1:Int))):=by unfold bt;omega
 have Gs:bt (1000 * (1+(a2:Int))):=by unfold bt;omega
 have TR:bt (1+(a3:Int)):=by unfold bt;omega
 go_wp2_with fail
 refine (FK 2 J _ c A n cap (j9.out.ext (ak (aj _) _))).mono ?_;rintro e w5 ⟨b,rfl,H5,hu5⟩;have Ca:=I ((vW.out.ext (ak (aj _) _)).drawn hu5 qm);have X5:=I (P1.out.ce hu5 J);have Y5:=I (Y4.out.ce hu5 J);have U5:=I ((U4.out.alloc _).trans hu5);have mh:=I H5;have Es:=hu5.size;simp at Es;clear H5 hu5 vW X4 P1 Y4 U4 j9;cases b
 ·have xx:=X5.out;have yy:=Y5.out;obtain ⟨Gx,azr,azs,azt,azu,azv,azw,azx,azy,azz,azA,azB⟩:=rL xx;obtain ⟨xL,aAC,aAD,aAE,aAF,aAG,aAH,aAI,aAJ,aAK,aAL,aAM⟩:=rL yy;clear xx yy X5 Y5;have Cd:w4.heap.size∉Gl:=λhm=>by have:=il.out _ hm;omega
  go_wp2;refine bodyPost_ret (v:=.agg #[.string nm,.slice Al ls.length cl,.int .i64 (1000 * (1+a1)),.int .i64 (1000 * (1+a2)),.int .i64 (1+a3),.slice none 0 0]) (by simp [results,Tryz.results30,go_sem, *]) rfl ?_;have ky:(w.alloc (.cells #[.string ⟨#[]⟩,.slice none 0 0,.int .i64 0,.int .i64 0,.int .i64 0,.slice none 0 0] 38)).heap.size = w.heap.size+1:=by simp
  have cR:=λb hb=>il.out b hb;exact ⟨⟨nm,ls,1000 * (1+a1),1000 * (1+a2),1+a3,[]⟩,[.string nm,.slice Al ls.length cl,.int .i64 (1000 * (1+a1)),.int .i64 (1000 * (1+a2)),.int .i64 (1+a3),.slice none 0 0],_,rfl,(ai.qk ((((((Ca.out.setCell (p:=⟨w.heap.size,0,none⟩) bx _).setCell (p:=⟨w.heap.size,1,none⟩) bx _).setCell (p:=⟨w.heap.size,2,none⟩) bx _).setCell (p:=⟨w.heap.size,3,none⟩) bx _).setCell (p:=⟨w.heap.size,4,none⟩) bx _).setCell (p:=⟨w.heap.size,5,none⟩) bx _) (ai.flat (B:=w4.heap.size) (Sl.nil _ none 0 (Nat.zero_le _))) J (λb hb=>by have:=cR b hb;omega) (len8 nE) Gq Gs TR).mono J,⟨(by show nm.size+kL ao.wt ls+0<=1000;omega),λhn=>pa hn xD.out rfl J J J⟩,rfl,((((((mh.out.bL J 0 _).bL J 1 _).bL J 2 _).bL J 3 _).bL J 4 _).bL J 5 _),((((((U5.out.new J 0 _).new J 1 _).new J 2 _).new J 3 _).new J 4 _).new J 5 _)⟩
 ·go_wp2_with fail
  refine (sU _ c A n cap mh.out).mono ?_;rintro e w7 ⟨ts,At,ct,Gt,rfl,hOt,htt,H7,WL,_⟩;have ie:=Ss htt;have P2:=I htt;clear htt;have GA:=I (Ca.out.drawn WL qm);have X7:=I (X5.out.ce WL J);have Y7:=I (Y5.out.ce WL J);have U7:=I (U5.out.trans WL);have XZ:=I hOt;have vX:=I H7;have rm:=WL.size;clear H7 WL Ca X5 Y5 U5 mh hOt;have xx:=X7.out;have yy:=Y7.out;obtain ⟨Gx,azr,azs,azt,azu,azv,azw,azx,azy,azz,azA,azB⟩:=rL xx;obtain ⟨xL,aAC,aAD,aAE,aAF,aAG,aAH,aAI,aAJ,aAK,aAL,aAM⟩:=rL yy;clear xx yy X7 Y7;have Cd:w4.heap.size∉Gl:=λhm=>by have:=il.out _ hm;omega
  go_wp2;refine bodyPost_ret (v:=.agg #[.string nm,.slice Al ls.length cl,.int .i64 (1000 * (1+a1)),.int .i64 (1000 * (1+a2)),.int .i64 (1+a3),.slice At ts.length ct]) (by simp [results,Tryz.results30,go_sem, *]) rfl ?_;have ky:(w.alloc (.cells #[.string ⟨#[]⟩,.slice none 0 0,.int .i64 0,.int .i64 0,.int .i64 0,.slice none 0 0] 38)).heap.size = w.heap.size+1:=by simp
  have cR:=λb hb=>il.out b hb;exact ⟨⟨nm,ls,1000 * (1+a1),1000 * (1+a2),1+a3,ts⟩,[.string nm,.slice Al ls.length cl,.int .i64 (1000 * (1+a1)),.int .i64 (1000 * (1+a2)),.int .i64 (1+a3),.slice At ts.length ct],_,rfl,(ai.qk (((((((GA.out.JA (p:=⟨w4.heap.size,5,none⟩) Cd _).setCell (p:=⟨w.heap.size,0,none⟩) bx _).setCell (p:=⟨w.heap.size,1,none⟩) bx _).setCell (p:=⟨w.heap.size,2,none⟩) bx _).setCell (p:=⟨w.heap.size,3,none⟩) bx _).setCell (p:=⟨w.heap.size,4,none⟩) bx _).setCell (p:=⟨w.heap.size,5,none⟩) bx _) (((((((XZ.out.setCell (p:=⟨w4.heap.size,5,none⟩) bx _).setCell (p:=⟨w.heap.size,0,none⟩) bx _).setCell (p:=⟨w.heap.size,1,none⟩) bx _).setCell (p:=⟨w.heap.size,2,none⟩) bx _).setCell (p:=⟨w.heap.size,3,none⟩) bx _).setCell (p:=⟨w.heap.size,4,none⟩) bx _).setCell (p:=⟨w.heap.size,5,none⟩) bx _) J (λb hb=>by have:=cR b hb;omega) (len8 nE) Gq Gs TR).mono J,⟨(by show nm.size+kL ao.wt ls+kL iU.wt ts<=1000;omega),λhn=>pa hn xD.out P2.out J J J⟩,rfl,(((((((vX.out.bL J 5 _).bL J 0 _).bL J 1 _).bL J 2 _).bL J 3 _).bL J 4 _).bL J 5 _),(((((((U7.out.new J 5 _).new J 0 _).new J 1 _).new J 2 _).new J 3 _).new J 4 _).new J 5 _)⟩
end Go.Proofs.YtdegaofigemegaaGreat
