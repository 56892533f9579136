/- Draws of words, and of one label, taint, tolerance. No condition. -/
import Derived.Test.YtajbbmembionpaaGreatKeepO
import Derived.Test.YtajbbmembionpaaGreatSortTolerancesS
namespace Go.Proofs.YtajbbmembionpaaGreat
open Go.ChangeShapes Go.WideShapes Go.ChangeAt Go.RowKit
set_option linter.unusedVariables false
set_option linter.unusedSimpArgs false
set_option maxHeartbeats 2000000
set_option maxRecDepth 100000
theorem oT (W:World) (e:TypeId) (xs:Array Value) (k:Nat) (u:Value) (h:xs[k]? = some u):(W.alloc (.cells xs e)).cell? ⟨W.heap.size,k,none⟩ = some u:=by
 rw [cell_of_row _ _ _ _ _ _ (heap_alloc_new W _)];exact h
theorem am.drawn {α:Type} [bc α] {w w':World} {B c:Nat} {x:α} {cs:List Value} {F:List Nat} (h:am w B x cs F) (hu:nN [c] w w') (hc:c < B):am w' B x cs F :=
 hu.L5 h (fun b X hm=>by have:=h.base b X;rw [List.mem_singleton] at hm;omega)
theorem FV (w:World) (c:Nat) (A:Option Addr) (n aq:Nat) (h:bM w c A n aq) :
 Calls Tryz.prog 118 #[.pointer (some ⟨c,0,none⟩)] w fun e w'=>∃s:ByteArray,e = .returned (.string s)∧(s.size≤8)∧bM w' c A n aq∧nN [c] w w':=by
 have ax:=h.lt;have HC:=I h;clear h;go_enter Tryz.func118,Tryz.ntmps118;go_wp2_with fail
 refine (uW (fun s=>s.size≤8) w.heap.size 6 _ J _ c A n aq (HC.out.ext (ak (aj _) _)) J S' (fun k hk=>?_)).mono ?_
 ·exact DD
 rintro e w1 ⟨s,rfl,hs,H1,hu⟩;replace H1:=I H1;replace hu:=(nN.lq [c] (ak (aj w) _)).trans hu;go_wp2;go_ret
 exact ⟨s,rfl,hs,H1.out,hu⟩
theorem F0 (w:World) (c:Nat) (A:Option Addr) (n aq:Nat) (h:bM w c A n aq) :
 Calls Tryz.prog 119 #[.pointer (some ⟨c,0,none⟩)] w fun e w'=>∃s:ByteArray,e = .returned (.string s)∧(s.size≤8)∧bM w' c A n aq∧nN [c] w w':=by
 have ax:=h.lt;have HC:=I h;clear h;go_enter Tryz.func119,Tryz.ntmps119;go_wp2_with fail
 refine (uW (fun s=>s.size≤8) w.heap.size 6 _ J _ c A n aq (HC.out.ext (ak (aj _) _)) J S' (fun k hk=>?_)).mono ?_
 ·exact DD
 rintro e w1 ⟨s,rfl,hs,H1,hu⟩;replace H1:=I H1;replace hu:=(nN.lq [c] (ak (aj w) _)).trans hu;go_wp2;go_ret
 exact ⟨s,rfl,hs,H1.out,hu⟩
theorem M2 (w:World) (c:Nat) (A:Option Addr) (n aq:Nat) (h:bM w c A n aq) :
 Calls Tryz.prog 69 #[.pointer (some ⟨c,0,none⟩)] w fun e w'=>∃s:ByteArray,e = .returned (.string s)∧(s.size≤8∧s≠⟨#[110,111,119,104,101,114,101]⟩)∧bM w' c A n aq∧nN [c] w w':=by
 have ax:=h.lt;have HC:=I h;clear h;go_enter Tryz.func69,Tryz.ntmps69;go_wp2_with fail
 refine (uW (fun s=>s.size≤8∧s≠⟨#[110,111,119,104,101,114,101]⟩) w.heap.size 7 _ J _ c A n aq (HC.out.ext (ak (aj _) _)) J S' (fun k hk=>?_)).mono ?_
 ·have fX:k = 0∨k = 1∨k = 2∨k = 3∨k = 4∨k = 5∨k = 6:=by omega
  rcases fX with rfl | rfl | rfl | rfl | rfl | rfl | rfl <;> exact ⟨_,oT _ _ _ _ _ rfl,by decide⟩
 rintro e w1 ⟨s,rfl,hs,H1,hu⟩;replace H1:=I H1;replace hu:=(nN.lq [c] (ak (aj w) _)).trans hu;go_wp2;go_ret
 exact ⟨s,rfl,hs,H1.out,hu⟩
theorem Sc (w:World) (c:Nat) (A:Option Addr) (n aq:Nat) (h:bM w c A n aq) :
 Calls Tryz.prog 112 #[.pointer (some ⟨c,0,none⟩)] w fun e w'=>∃s:Int,e = .returned (.int .i64 s)∧(0≤s∧s≤1024000)∧bM w' c A n aq∧nN [c] w w':=by
 have ax:=h.lt;have HC:=I h;clear h;go_enter Tryz.func112,Tryz.ntmps112;go_wp2_with fail
 refine (yX (fun s=>0≤s∧s≤1024000) w.heap.size 9 _ J _ c A n aq (HC.out.ext (ak (aj _) _)) J S' (fun k hk=>?_)).mono ?_
 ·have fX:k = 0∨k = 1∨k = 2∨k = 3∨k = 4∨k = 5∨k = 6∨k = 7∨k = 8:=by omega
  rcases fX with rfl | rfl | rfl | rfl | rfl | rfl | rfl | rfl | rfl <;> exact ⟨_,oT _ _ _ _ _ rfl,J⟩
 rintro e w1 ⟨s,rfl,hs,H1,hu⟩;replace H1:=I H1;replace hu:=(nN.lq [c] (ak (aj w) _)).trans hu;go_wp2;go_ret
 exact ⟨s,rfl,hs,H1.out,hu⟩
theorem eI (n:Nat) (Z:n≤31) (x:UInt8) (pC:∀wq:World,(Instr.makeSlice 22 (.int .i64 n) (.int .i64 n)).run Tryz.prog wq = .ok (.slice (some ⟨wq.heap.size,0,none⟩) n n) (wq.alloc (.cells (Array.replicate n (B8 0)) 5))) (w:World) :
 Calls Tryz.prog 117 #[.int .i64 n,.int .u8 (x.toNat:Int)] w fun e w'=>∃s:ByteArray,e = .returned (.string s)∧s.size≤31∧Below w.heap.size w w':=by
 go_enter Tryz.func117,Tryz.ntmps117;go_wp2_with fail
 go_loopw [6] (fun i wr=>∃(k:Nat) (l:List UInt8),i = .int .i64 k∧k≤n∧Hid (l.length = n∧oG wr w.heap.size (l.map B8))∧Below w.heap.size w wr) (fun i _=>n - (intOf i).toNat)
 case atStart=>exact ⟨0,List.replicate n 0,rfl,Nat.zero_le _,I ⟨S',by rw [List.map_replicate];have:=oG.new w (List.replicate n (B8 0)) 5;rwa [List.toArray_replicate] at this⟩,ak (aj _) _⟩
 case round =>
  obtain ⟨k,l,rfl,hk,HL,aR⟩:=hrel;have ax:=HL.out.2.lt;have hf:=HL.out.2.fz k;by_cases tN:k < n
  ·have nU:(k:Int) < n:=J;have q:=HL.out.2.cell (i:=k) (u:=B8 (l[k]'(by have:=HL.out.1;omega))) (by rw [List.getElem?_map,List.getElem?_eq_getElem (by have:=HL.out.1;omega)];rfl);go_wp2;exact ⟨⟨k+1,l.set k x,N',J,I ⟨by rw [List.length_set];exact HL.out.1,by rw [List.map_set];exact HL.out.2.put k _⟩,aC aR bA _⟩,by simp only [intOf];omega⟩
  ·have nU:¬(k:Int) < n:=J;have Hi:(convert 22 9 (.slice (some ⟨w.heap.size,0,none⟩) n n)).run Tryz.prog wr = .ok (.string ⟨l.toArray⟩) wr:=by
    have h1:=HL.out.1;subst h1
    exact run_convert_bytes_back wr 22 9 5 ⟨w.heap.size,0,none⟩ l.length l Tryz.underlying22 Tryz.underlying5 Tryz.underlying9 (fun i hi=>by
     refine Eq.trans ?_ (HL.out.2.cell (i:=i) (u:=B8 l[i]) (by rw [List.getElem?_map,List.getElem?_eq_getElem hi];rfl))
     rw [Addr.add_lit,Nat.zero_add])
   go_wp2;go_ret
   exact ⟨_,rfl,(by show l.toArray.size≤31;rw [List.size_toArray,HL.out.1];exact Z),aR⟩
theorem kv (w:World):Calls Tryz.prog 117 #[.int .i64 20,.int .u8 97] w fun e w'=>∃s:ByteArray,e = .returned (.string s)∧s.size≤31∧Below w.heap.size w w' :=
 eI 20 J 97 (fun wq=>by kernel_rfl) w
theorem kw (w:World):Calls Tryz.prog 117 #[.int .i64 21,.int .u8 97] w fun e w'=>∃s:ByteArray,e = .returned (.string s)∧s.size≤31∧Below w.heap.size w w' :=
 eI 21 J 97 (fun wq=>by kernel_rfl) w
theorem pl (w:World):Calls Tryz.prog 117 #[.int .i64 30,.int .u8 98] w fun e w'=>∃s:ByteArray,e = .returned (.string s)∧s.size≤31∧Below w.heap.size w w' :=
 eI 30 J 98 (fun wq=>by kernel_rfl) w
theorem nu (w:World):Calls Tryz.prog 117 #[.int .i64 30,.int .u8 122] w fun e w'=>∃s:ByteArray,e = .returned (.string s)∧s.size≤31∧Below w.heap.size w w' :=
 eI 30 J 122 (fun wq=>by kernel_rfl) w
theorem pm (w:World):Calls Tryz.prog 117 #[.int .i64 31,.int .u8 98] w fun e w'=>∃s:ByteArray,e = .returned (.string s)∧s.size≤31∧Below w.heap.size w w' :=
 eI 31 J 98 (fun wq=>by kernel_rfl) w
theorem nv (w:World):Calls Tryz.prog 117 #[.int .i64 31,.int .u8 122] w fun e w'=>∃s:ByteArray,e = .returned (.string s)∧s.size≤31∧Below w.heap.size w w' :=
 eI 31 J 122 (fun wq=>by kernel_rfl) w
theorem nw (w:World) (c:Nat) (A:Option Addr) (n aq:Nat) (h:bM w c A n aq) :
 Calls Tryz.prog 70 #[.pointer (some ⟨c,0,none⟩)] w fun e w'=>∃s:ByteArray,e = .returned (.string s)∧s.size≤31∧bM w' c A n aq∧nN [c] w w':=by
 have ax:=h.lt;have HC:=I h;clear h;go_enter Tryz.func70,Tryz.ntmps70;go_wp2_with fail
 refine (kv _).mono ?_;rintro e w1 ⟨s1,rfl,dB,bo⟩;go_wp2_with fail
 refine (kw _).mono ?_;rintro e w2 ⟨s2,rfl,cR,ar⟩;go_wp2_with fail
 refine (pl _).mono ?_;rintro e w3 ⟨s3,rfl,hs3,bb⟩;go_wp2_with fail
 refine (pm _).mono ?_;rintro e w4 ⟨s4,rfl,hs4,bx⟩;have HB:=I (ah (ah (ah bo ar) bb) bx:Below w.heap.size w w4);have hz:=HB.out.size;clear bo ar bb bx;go_wp2_with fail
 refine (uW (fun s=>s.size≤31) w4.heap.size 17 _ J _ c A n aq ((HC.out.ext HB.out).ext (ak (aj _) _)) J S' (fun k hk=>?_)).mono ?_
 ·have fX:k = 0∨k = 1∨k = 2∨k = 3∨k = 4∨k = 5∨k = 6∨k = 7∨k = 8∨k = 9∨k = 10∨k = 11∨k = 12∨k = 13∨k = 14∨k = 15∨k = 16:=by omega
  rcases fX with rfl | rfl | rfl | rfl | rfl | rfl | rfl | rfl | rfl | rfl | rfl | rfl | rfl | rfl | rfl | rfl | rfl <;> exact ⟨_,oT _ _ _ _ _ rfl,by first | assumption | decide⟩
 rintro e w5 ⟨s,rfl,hs,H5,hu⟩;replace H5:=I H5;replace hu:=(nN.lq [c] (ak HB.out _)).trans hu;go_wp2;go_ret
 exact ⟨s,rfl,hs,H5.out,hu⟩
theorem nN.new {F:List Nat} {w w1:World} (h:nN F w w1) {b:Nat} (X:w.heap.size≤b) (i:Nat) (u:Value):nN F w (w1.setCell ⟨b,i,none⟩ u) :=
 ⟨h.os,h.tape,h.output,by simp [World.setCell];exact h.size,fun k hk Z=>(Below.heap_setCell _ _ _ _ bA).trans (h.block k hk Z)⟩
theorem ZD (w:World) (c:Nat) (A:Option Addr) (n aq:Nat) (h:bM w c A n aq) :
 Calls Tryz.prog 167 #[.pointer (some ⟨c,0,none⟩)] w fun e w'=>∃x:iU,e = .returned (.agg #[.string x.key,.string x.value,.int .i64 x.ao])∧(x.key.size≤8∧x.value.size≤8∧1≤x.ao∧x.ao≤2)∧bM w' c A n aq∧nN [c] w w':=by
 have ax:=h.lt;have HC:=I h;clear h;go_enter Tryz.func167,Tryz.ntmps167;go_wp2_with fail
 refine (FV _ c A n aq (HC.out.ext (ak (aj _) _))).mono ?_;rintro e w1 ⟨s1,rfl,dB,H1,hu1⟩;replace H1:=I H1;go_wp2_with fail
 refine (F0 _ c A n aq H1.out).mono ?_;rintro e w2 ⟨s2,rfl,cR,H2,bN⟩;replace H2:=I H2;go_wp2_with fail
 refine (fs 2 J _ c A n aq H2.out).mono ?_;rintro e w3 ⟨r,rfl,hr,H3,bu⟩;replace H3:=I H3;have B0:=oG.new w [.string ⟨#[]⟩,.string ⟨#[]⟩,.int .i64 0] 126;have B3:=((B0.bR hu1 J).bR bN J).bR bu J;have q0:=B3.cell (i:=0) rfl;have q1:=B3.cell (i:=1) rfl;have q2:=B3.cell (i:=2) rfl;have f0:=B3.fz 0;have f1:=B3.fz 1;have f2:=B3.fz 2;clear B0 B3;go_wp2;refine bodyPost_ret (v:=.agg #[.string s1,.string s2,.int .i64 (1+r)]) (by simp [results,Tryz.results167,go_sem, *]) rfl ?_;exact ⟨⟨s1,s2,1+r⟩,rfl,⟨dB,cR,by dsimp only;omega,by dsimp only;omega⟩,((H3.out.bj ax 0 _).bj ax 1 _).bj ax 2 _,((((((nN.lq [c] (ak (aj w) _)).trans hu1).trans bN).trans bu).new (Nat.le_refl _) 0 _).new (Nat.le_refl _) 1 _).new (Nat.le_refl _) 2 _⟩
theorem Sd (w:World) (c:Nat) (A:Option Addr) (n aq:Nat) (h:bM w c A n aq) :
 Calls Tryz.prog 150 #[.pointer (some ⟨c,0,none⟩)] w fun e w'=>∃x:bH,e = .returned (.agg #[.string x.key,.bool x.equal,.string x.value,.int .i64 x.ao])∧(x.key.size≤8∧x.value.size≤8∧0≤x.ao∧x.ao≤2)∧bM w' c A n aq∧nN [c] w w':=by
 have ax:=h.lt;have HC:=I h;clear h;go_enter Tryz.func150,Tryz.ntmps150;go_wp2_with fail
 refine (FV _ c A n aq (HC.out.ext (ak (aj _) _))).mono ?_;rintro e w1 ⟨s1,rfl,dB,H1,hu1⟩;replace H1:=I H1;go_wp2_with fail
 refine (fs 3 J _ c A n aq H1.out).mono ?_;rintro e w2 ⟨r,rfl,hr,H2,bN⟩;replace H2:=I H2;have X0:=oG.new w [.string ⟨#[]⟩,.bool false,.string ⟨#[]⟩,.int .i64 0] 117;have X2:=(X0.bR hu1 J).bR bN J;have cE:=hu1.size;have cw:=bN.size;simp at cE;have cq:=H2.out.lt;have U2:=I (((nN.lq [c] (ak (aj w) _)).trans hu1).trans bN);have Y2:=oG.new w2 [.string s1,.bool false,.string ⟨#[]⟩,.int .i64 r] 117;replace X2:=X2.ext (ak (aj _) (.cells [.string s1,.bool false,.string ⟨#[]⟩,.int .i64 r].toArray 117));replace U2:=I (U2.out.alloc (.cells #[.string s1,.bool false,.string ⟨#[]⟩,.int .i64 r] 117));clear X0 hu1 bN;go_wp2_with fail
 refine (sy 2 J _ c A n aq (H2.out.ext (ak (aj _) _))).mono ?_;rintro e w3 ⟨b,rfl,H3,bu⟩;replace H3:=I H3;have X3:=X2.bR bu J;have Y3:=Y2.bR bu J;have U3:=I (U2.out.trans bu);have cU:=bu.size;simp at cU;clear X2 Y2 bu U2;cases b
 ·obtain ⟨Ga,aB7,aB8,aB9,aCa,aCb,aCc,aCd⟩:=n' Y3;go_wp2_with fail
  refine (sy 3 J _ c A n aq H3.out).mono ?_;rintro e w4 ⟨b,rfl,H4,Td⟩;replace H4:=I H4;have X4:=X3.bR Td J;have Y4:=Y3.bR Td J;have U4:=I (U3.out.trans Td);clear Ga aB7 aB8 aB9 aCa aCb aCc aCd;clear X3 Y3 Td U3;obtain ⟨Gb,fX4_0,kX4_1,fX4_1,kX4_2,fX4_2,kX4_3,fX4_3⟩:=n' X4;obtain ⟨M3,aFf,aFg,aFh,aFi,aFj,aFk,aFl⟩:=n' Y4;cases b
  ·go_wp2;refine bodyPost_ret (v:=.agg #[.string s1,.bool false,.string ⟨#[]⟩,.int .i64 r]) (by simp [results,Tryz.results150,go_sem, *]) rfl ?_;exact ⟨⟨s1,false,⟨#[]⟩,r⟩,rfl,⟨dB,Nat.zero_le _,by dsimp only;omega,by dsimp only;omega⟩,((((H4.out.bj ax 0 _).bj ax 1 _).bj ax 2 _).bj ax 3 _),((((U4.out.new (Nat.le_refl _) 0 _).new (Nat.le_refl _) 1 _).new (Nat.le_refl _) 2 _).new (Nat.le_refl _) 3 _)⟩
  ·go_wp2;refine bodyPost_ret (v:=.agg #[.string ⟨#[]⟩,.bool false,.string ⟨#[]⟩,.int .i64 r]) (by simp [results,Tryz.results150,go_sem, *]) rfl ?_;exact ⟨⟨⟨#[]⟩,false,⟨#[]⟩,r⟩,rfl,⟨Nat.zero_le _,Nat.zero_le _,by dsimp only;omega,by dsimp only;omega⟩,(((((H4.out.bj J 0 _).bj ax 0 _).bj ax 1 _).bj ax 2 _).bj ax 3 _),(((((U4.out.new J 0 _).new (Nat.le_refl _) 0 _).new (Nat.le_refl _) 1 _).new (Nat.le_refl _) 2 _).new (Nat.le_refl _) 3 _)⟩
 ·obtain ⟨Ga,aB7,aB8,aB9,aCa,aCb,aCc,aCd⟩:=n' Y3;go_wp2_with fail
  refine (F0 _ c A n aq (H3.out.bj J 1 _)).mono ?_;rintro e w4 ⟨s2,rfl,cR,H4,Td⟩;replace H4:=I H4;have X4:=(X3.bj J 1 _).bR Td J;have Y4:=(Y3.put 1 _).bR Td J;have U4:=I ((U3.out.new J 1 _).trans Td);clear Ga aB7 aB8 aB9 aCa aCb aCc aCd;clear X3 Y3 Td U3;obtain ⟨Gb,fX4_0,kX4_1,fX4_1,kX4_2,fX4_2,kX4_3,fX4_3⟩:=n' X4;obtain ⟨M3,aFf,aFg,aFh,aFi,aFj,aFk,aFl⟩:=n' Y4;go_wp2;refine bodyPost_ret (v:=.agg #[.string s1,.bool true,.string s2,.int .i64 r]) (by simp [results,Tryz.results150,go_sem, *]) rfl ?_;exact ⟨⟨s1,true,s2,r⟩,rfl,⟨dB,cR,by dsimp only;omega,by dsimp only;omega⟩,(((((H4.out.bj J 2 _).bj ax 0 _).bj ax 1 _).bj ax 2 _).bj ax 3 _),(((((U4.out.new J 2 _).new (Nat.le_refl _) 0 _).new (Nat.le_refl _) 1 _).new (Nat.le_refl _) 2 _).new (Nat.le_refl _) 3 _)⟩
structure pb (g:Nat) (w w':World):Prop where
 os:w'.os = w.os
 tape:w'.tape = w.tape
 output:w'.output = w.output
 size:w'.heap.size = w.heap.size
 block:∀b,b≠g→w'.heap[b]? = w.heap[b]?
section
variable {P:Program} {w w':World} {g:Nat}
theorem oG.only {b:Nat} {cs:List Value} (h:oG w b cs) (ho:pb g w w') (X:b≠g):oG w' b cs:=h.bs (ho.block b X)
theorem nN.only {F:List Nat} {w0:World} (h:nN F w0 w) (ho:pb g w w') (hg:w0.heap.size≤g):nN F w0 w' :=
 ⟨ho.os.trans h.os,ho.tape.trans h.tape,ho.output.trans h.output,by rw [ho.size];exact h.size,fun i hi Z=>(ho.block i J).trans (h.block i hi Z)⟩
theorem bM.only {c n aq:Nat} {A:Option Addr} (h:bM w c A n aq) (ho:pb g w w') (hg:c < g):bM w' c A n aq:=by
 obtain ⟨⟨i,x,t,h1,h2⟩,h3,h4⟩:=h;refine ⟨⟨i,x,t,(ho.block c J).trans h1,h2⟩,fun k hk=>?_,h4⟩;obtain ⟨q,o,v,e,hq,hv,fW⟩:=h3 k hk;exact ⟨q,o,v,e,hq,(World.cell?_of_block (ho.block q J)).trans hv,fW⟩
theorem am.only {α:Type} [bc α] {B:Nat} {x:α} {cs:List Value} {F:List Nat} (h:am w B x cs F) (ho:pb g w w') (hg:∀b∈F,b≠g):am w' B x cs F :=
 h.bs (fun b X=>ho.block b (hg b X)) (by rw [ho.size];exact Nat.le_refl _)
theorem As {w0:World} (h:Below w0.heap.size w0 w) (ho:pb g w w') (hg:w0.heap.size≤g):Below w0.heap.size w0 w' :=
 ⟨ho.os.trans h.os,ho.tape.trans h.tape,ho.output.trans h.output,by rw [ho.size];exact h.size,fun i hi=>(ho.block i J).trans (h.block i hi)⟩
theorem oG.ul (w:World) (a b:Obj) (cs:List Value) (t:TypeId):oG (((w.alloc a).alloc b).alloc (.cells cs.toArray t)) (w.heap.size+1+1) cs:=by
 have h:=oG.new ((w.alloc a).alloc b) cs t;have e:((w.alloc a).alloc b).heap.size = w.heap.size+1+1:=by simp
 rw [e] at h;exact h
theorem oG.range {cs:List Value} (h:oG w g cs):w.rangeAt g 0 cs:=fun j v hv=>by
 rw [Nat.zero_add];exact h.cell hv
theorem kB {op:Oper} {a:Act} {K:Act→World→Prop} {Q:Exit→Act→World→Prop} (ty:TypeId) (x y:Operand) (ho:op.op = .store ty x y)
 (g o:Nat) (cs old:List Value) (hx:a.eval x = .pointer (some ⟨g,o,none⟩)) (hy:a.eval y = .agg cs.toArray) (hB:oG w g old) (hl:o+cs.length≤old.length)
 (hi:(P.info? ty).map (·.size) = some cs.length) (h1:∀v∈cs,v.oneCell' = true)
 (h:∀w',oG w' g (old.take o++cs++old.drop (o+cs.length))→pb g w w'→K (a.put op.dst undef) w'):op.wp P a w K Q:=by
 obtain ⟨t,hg⟩:=hB;have hr:=run_storeCells_at (P:=P) g o t cs 0 old.toArray w hg (by simpa using hl) h1;have hv:(storeVar ty ⟨g,o,none⟩ (.agg cs.toArray)).run P w = .ok () (w.setRow g (old.take o++cs++old.drop (o+cs.length)).toArray):=by
  cases hq:P.info? ty with
  | none=>simp [hq] at hi
  | some i =>have hs:cs.length = i.size:=(by simp [hq] at hi;omega);simp only [Nat.add_zero,List.toList_toArray] at hr;simp [storeVar,sizeOf,typeInfo,hq,Value.cells,hs,hr]
 unfold Oper.wp execOp;simp only [ho,hx,hy,Instr.storeAt,Instr.sureAddr,Sem.run_bind,Sem.run_pure,Result.andThen_ok,hv];refine h _ ⟨t,setRow_heap w g _ _ t _ hg⟩ ⟨rfl,rfl,rfl,by simp [World.setRow],fun b X=>?_⟩;simp [World.setRow,Array.getElem?_modify,X,Ne.symm X]
theorem BF {op:Oper} {a:Act} {K:Act→World→Prop} {Q:Exit→Act→World→Prop} (ty:TypeId) (x:Operand) (ho:op.op = .load ty x)
 (g:Nat) (cs:List Value) (hx:a.eval x = .pointer (some ⟨g,0,none⟩)) (d:TypeDesc) (hB:oG w g cs) (hu:P.underlying ty = some d) (hd:d.isRow = true) (hi:(P.info? ty).map (·.size) = some cs.length)
 (h:K (a.put op.dst (.agg cs.toArray)) w):op.wp P a w K Q :=
 wp_load_mid ty x ho g 0 hx cs d hB.range hu hd hi h
theorem M4 {fn:Func} {p:Tmp} {ty:TypeId} (h:fn.results = #[.cell p ty]) (tmps:Array Value) (g:Nat) (cs:List Value) (d:TypeDesc) (hp:tmps.getD p undef = .pointer (some ⟨g,0,none⟩)) (hB:oG w g cs)
 (hu:P.underlying ty = some d) (hd:(match d with | .struct _ | .array _ _=>true | _=>false) = true) (hi:(P.info? ty).map (·.size) = some cs.length):(results fn tmps).run P w = .ok (.agg cs.toArray) w:=by
 obtain ⟨t,h1⟩:=hB;exact results_cell_row h tmps w g t cs.toArray (0,0) d hp h1 hu hd Vy
theorem vW {fn:Func} {p u:Tmp} {ty:TypeId} (h:fn.results = #[.cell p ty,.tmp u]) (tmps:Array Value) (g:Nat) (cs:List Value) (d:TypeDesc) (v:Value) (hp:tmps.getD p undef = .pointer (some ⟨g,0,none⟩)) (hv:tmps.getD u undef = v) (hB:oG w g cs)
 (hu:P.underlying ty = some d) (hd:d.isRow = true) (hi:(P.info? ty).map (·.size) = some cs.length):(results fn tmps).run P w = .ok (.tuple #[.agg cs.toArray,v]) w:=by
 have hr:=run_loadVar_mid (P:=P) w g 0 ty cs d hB.range hu hd hi;have ET:tmps[p]?.getD undef = .pointer (some ⟨g,0,none⟩):=by simpa using hp
 have ZE:tmps[u]?.getD undef = v:=by simpa using hv
 simp [results,h,ET,ZE,asAddr,hr]
end
end Go.Proofs.YtajbbmembionpaaGreat
