/- Draws of words, and of one label, taint, tolerance. No condition. -/
import Derived.Test.YtajbbmembionpaaGreatHostNormS
import Derived.Test.YtajbbmembionpaaGreatSortTolerancesS
namespace Go.Proofs.YtajbbmembionpaaGreat
open Go.ChangeShapes Go.WideShapes Go.ChangeAt Go.RowKit
set_option linter.unusedVariables false
set_option linter.unusedSimpArgs false
set_option maxHeartbeats 2000000
set_option maxRecDepth 100000
theorem po (W:World) (e:TypeId) (xs:Array Value) (k:Nat) (u:Value) (h:xs[k]? = some u):(W.alloc (.cells xs e)).cell? ⟨W.heap.size,k,none⟩ = some u:=by
 rw [cell_of_row _ _ _ _ _ _ (heap_alloc_new W _)];exact h
theorem am.drawn {α:Type} [bb α] {w w':World} {B c:Nat} {x:α} {cs:List Value} {F:List Nat} (h:am w B x cs F) (hu:nN [c] w w') (hc:c < B):am w' B x cs F :=
 hu.M' h (fun b U hm=>by have:=h.base b U;rw [List.mem_singleton] at hm;omega)
theorem Hd (w:World) (c:Nat) (A:Option Addr) (n ar:Nat) (h:bR w c A n ar) :
 Calls Tryz.prog 118 #[.pointer (some ⟨c,0,none⟩)] w fun e w'=>∃s:ByteArray,e = .returned (.string s)∧(s.size≤8)∧bR w' c A n ar∧nN [c] w w':=by
 have av:=h.lt;have HC:=I h;clear h;go_enter Tryz.func118,Tryz.ntmps118;go_wp2_with fail
 refine (vb (fun s=>s.size≤8) w.heap.size 6 _ J _ c A n ar (HC.out.ext (ak (aj _) _)) J S' (fun k hk=>?_)).mono ?_
 ·exact Ea
 rintro e w1 ⟨s,rfl,hs,H1,hu⟩;replace H1:=I H1;replace hu:=(nN.lq [c] (ak (aj w) _)).trans hu;go_wp2;go_ret
 exact ⟨s,rfl,hs,H1.out,hu⟩
theorem Hh (w:World) (c:Nat) (A:Option Addr) (n ar:Nat) (h:bR w c A n ar) :
 Calls Tryz.prog 119 #[.pointer (some ⟨c,0,none⟩)] w fun e w'=>∃s:ByteArray,e = .returned (.string s)∧(s.size≤8)∧bR w' c A n ar∧nN [c] w w':=by
 have av:=h.lt;have HC:=I h;clear h;go_enter Tryz.func119,Tryz.ntmps119;go_wp2_with fail
 refine (vb (fun s=>s.size≤8) w.heap.size 6 _ J _ c A n ar (HC.out.ext (ak (aj _) _)) J S' (fun k hk=>?_)).mono ?_
 ·exact Ea
 rintro e w1 ⟨s,rfl,hs,H1,hu⟩;replace H1:=I H1;replace hu:=(nN.lq [c] (ak (aj w) _)).trans hu;go_wp2;go_ret
 exact ⟨s,rfl,hs,H1.out,hu⟩
theorem OD (w:World) (c:Nat) (A:Option Addr) (n ar:Nat) (h:bR w c A n ar) :
 Calls Tryz.prog 69 #[.pointer (some ⟨c,0,none⟩)] w fun e w'=>∃s:ByteArray,e = .returned (.string s)∧(s.size≤8∧s≠⟨#[110,111,119,104,101,114,101]⟩)∧bR w' c A n ar∧nN [c] w w':=by
 have av:=h.lt;have HC:=I h;clear h;go_enter Tryz.func69,Tryz.ntmps69;go_wp2_with fail
 refine (vb (fun s=>s.size≤8∧s≠⟨#[110,111,119,104,101,114,101]⟩) w.heap.size 7 _ J _ c A n ar (HC.out.ext (ak (aj _) _)) J S' (fun k hk=>?_)).mono ?_
 ·have gp:k = 0∨k = 1∨k = 2∨k = 3∨k = 4∨k = 5∨k = 6:=by omega
  rcases gp with rfl | rfl | rfl | rfl | rfl | rfl | rfl <;> exact ⟨_,po _ _ _ _ _ rfl,by decide⟩
 rintro e w1 ⟨s,rfl,hs,H1,hu⟩;replace H1:=I H1;replace hu:=(nN.lq [c] (ak (aj w) _)).trans hu;go_wp2;go_ret
 exact ⟨s,rfl,hs,H1.out,hu⟩
theorem T6 (w:World) (c:Nat) (A:Option Addr) (n ar:Nat) (h:bR w c A n ar) :
 Calls Tryz.prog 112 #[.pointer (some ⟨c,0,none⟩)] w fun e w'=>∃s:Int,e = .returned (.int .i64 s)∧(0≤s∧s≤1024000)∧bR w' c A n ar∧nN [c] w w':=by
 have av:=h.lt;have HC:=I h;clear h;go_enter Tryz.func112,Tryz.ntmps112;go_wp2_with fail
 refine (Bs (fun s=>0≤s∧s≤1024000) w.heap.size 9 _ J _ c A n ar (HC.out.ext (ak (aj _) _)) J S' (fun k hk=>?_)).mono ?_
 ·have gp:k = 0∨k = 1∨k = 2∨k = 3∨k = 4∨k = 5∨k = 6∨k = 7∨k = 8:=by omega
  rcases gp with rfl | rfl | rfl | rfl | rfl | rfl | rfl | rfl | rfl <;> exact ⟨_,po _ _ _ _ _ rfl,J⟩
 rintro e w1 ⟨s,rfl,hs,H1,hu⟩;replace H1:=I H1;replace hu:=(nN.lq [c] (ak (aj w) _)).trans hu;go_wp2;go_ret
 exact ⟨s,rfl,hs,H1.out,hu⟩
theorem eM (n:Nat) (X:n≤31) (x:UInt8) (zf:∀wq:World,(Instr.makeSlice 22 (.int .i64 n) (.int .i64 n)).run Tryz.prog wq = .ok (.slice (some ⟨wq.heap.size,0,none⟩) n n) (wq.alloc (.cells (Array.replicate n (B8 0)) 5))) (w:World) :
 Calls Tryz.prog 117 #[.int .i64 n,.int .u8 (x.toNat:Int)] w fun e w'=>∃s:ByteArray,e = .returned (.string s)∧s.size≤31∧Below w.heap.size w w':=by
 go_enter Tryz.func117,Tryz.ntmps117;go_wp2_with fail
 go_loopw [6] (fun i wr=>∃(k:Nat) (l:List UInt8),i = .int .i64 k∧k≤n∧Hid (l.length = n∧oG wr w.heap.size (l.map B8))∧Below w.heap.size w wr) (fun i _=>n - (intOf i).toNat)
 case atStart=>exact ⟨0,List.replicate n 0,rfl,Nat.zero_le _,I ⟨S',by rw [List.map_replicate];have:=oG.new w (List.replicate n (B8 0)) 5;rwa [List.toArray_replicate] at this⟩,ak (aj _) _⟩
 case round =>
  obtain ⟨k,l,rfl,hk,HL,aK⟩:=hrel;have av:=HL.out.2.lt;have hf:=HL.out.2.fz k;by_cases tA:k < n
  ·have nH:(k:Int) < n:=J;have q:=HL.out.2.cell (i:=k) (u:=B8 (l[k]'(by have:=HL.out.1;omega))) (by rw [List.getElem?_map,List.getElem?_eq_getElem (by have:=HL.out.1;omega)];rfl);go_wp2;exact ⟨⟨k+1,l.set k x,N',J,I ⟨by rw [List.length_set];exact HL.out.1,by rw [List.map_set];exact HL.out.2.put k _⟩,aC aK bC _⟩,by simp only [intOf];omega⟩
  ·have nH:¬(k:Int) < n:=J;have Ix:(convert 22 9 (.slice (some ⟨w.heap.size,0,none⟩) n n)).run Tryz.prog wr = .ok (.string ⟨l.toArray⟩) wr:=by
    have Z:=HL.out.1;subst Z
    exact run_convert_bytes_back wr 22 9 5 ⟨w.heap.size,0,none⟩ l.length l Tryz.underlying22 Tryz.underlying5 Tryz.underlying9 (fun i hi=>by
     refine Eq.trans ?_ (HL.out.2.cell (i:=i) (u:=B8 l[i]) (by rw [List.getElem?_map,List.getElem?_eq_getElem hi];rfl))
     rw [Addr.add_lit,Nat.zero_add])
   go_wp2;go_ret
   exact ⟨_,rfl,(by show l.toArray.size≤31;rw [List.size_toArray,HL.out.1];exact X),aK⟩
theorem kq (w:World):Calls Tryz.prog 117 #[.int .i64 20,.int .u8 97] w fun e w'=>∃s:ByteArray,e = .returned (.string s)∧s.size≤31∧Below w.heap.size w w' :=
 eM 20 J 97 (fun wq=>by kernel_rfl) w
theorem kr (w:World):Calls Tryz.prog 117 #[.int .i64 21,.int .u8 97] w fun e w'=>∃s:ByteArray,e = .returned (.string s)∧s.size≤31∧Below w.heap.size w w' :=
 eM 21 J 97 (fun wq=>by kernel_rfl) w
theorem pe (w:World):Calls Tryz.prog 117 #[.int .i64 30,.int .u8 98] w fun e w'=>∃s:ByteArray,e = .returned (.string s)∧s.size≤31∧Below w.heap.size w w' :=
 eM 30 J 98 (fun wq=>by kernel_rfl) w
theorem nd (w:World):Calls Tryz.prog 117 #[.int .i64 30,.int .u8 122] w fun e w'=>∃s:ByteArray,e = .returned (.string s)∧s.size≤31∧Below w.heap.size w w' :=
 eM 30 J 122 (fun wq=>by kernel_rfl) w
theorem pg (w:World):Calls Tryz.prog 117 #[.int .i64 31,.int .u8 98] w fun e w'=>∃s:ByteArray,e = .returned (.string s)∧s.size≤31∧Below w.heap.size w w' :=
 eM 31 J 98 (fun wq=>by kernel_rfl) w
theorem nf (w:World):Calls Tryz.prog 117 #[.int .i64 31,.int .u8 122] w fun e w'=>∃s:ByteArray,e = .returned (.string s)∧s.size≤31∧Below w.heap.size w w' :=
 eM 31 J 122 (fun wq=>by kernel_rfl) w
theorem ng (w:World) (c:Nat) (A:Option Addr) (n ar:Nat) (h:bR w c A n ar) :
 Calls Tryz.prog 70 #[.pointer (some ⟨c,0,none⟩)] w fun e w'=>∃s:ByteArray,e = .returned (.string s)∧s.size≤31∧bR w' c A n ar∧nN [c] w w':=by
 have av:=h.lt;have HC:=I h;clear h;go_enter Tryz.func70,Tryz.ntmps70;go_wp2_with fail
 refine (kq _).mono ?_;rintro e w1 ⟨s1,rfl,dq,bp⟩;go_wp2_with fail
 refine (kr _).mono ?_;rintro e w2 ⟨s2,rfl,cR,aq⟩;go_wp2_with fail
 refine (pe _).mono ?_;rintro e w3 ⟨s3,rfl,hs3,bd⟩;go_wp2_with fail
 refine (pg _).mono ?_;rintro e w4 ⟨s4,rfl,hs4,bw⟩;have HB:=I (ah (ah (ah bp aq) bd) bw:Below w.heap.size w w4);have hz:=HB.out.size;clear bp aq bd bw;go_wp2_with fail
 refine (vb (fun s=>s.size≤31) w4.heap.size 17 _ J _ c A n ar ((HC.out.ext HB.out).ext (ak (aj _) _)) J S' (fun k hk=>?_)).mono ?_
 ·have gp:k = 0∨k = 1∨k = 2∨k = 3∨k = 4∨k = 5∨k = 6∨k = 7∨k = 8∨k = 9∨k = 10∨k = 11∨k = 12∨k = 13∨k = 14∨k = 15∨k = 16:=by omega
  rcases gp with rfl | rfl | rfl | rfl | rfl | rfl | rfl | rfl | rfl | rfl | rfl | rfl | rfl | rfl | rfl | rfl | rfl <;> exact ⟨_,po _ _ _ _ _ rfl,by first | assumption | decide⟩
 rintro e w5 ⟨s,rfl,hs,H5,hu⟩;replace H5:=I H5;replace hu:=(nN.lq [c] (ak HB.out _)).trans hu;go_wp2;go_ret
 exact ⟨s,rfl,hs,H5.out,hu⟩
theorem nN.new {F:List Nat} {w w1:World} (h:nN F w w1) {b:Nat} (U:w.heap.size≤b) (i:Nat) (u:Value):nN F w (w1.setCell ⟨b,i,none⟩ u) :=
 ⟨h.os,h.tape,h.output,by simp [World.setCell];exact h.size,fun k hk X=>(Below.heap_setCell _ _ _ _ bC).trans (h.block k hk X)⟩
theorem aC9 (w:World) (c:Nat) (A:Option Addr) (n ar:Nat) (h:bR w c A n ar) :
 Calls Tryz.prog 167 #[.pointer (some ⟨c,0,none⟩)] w fun e w'=>∃x:iU,e = .returned (.agg #[.string x.key,.string x.value,.int .i64 x.ap])∧(x.key.size≤8∧x.value.size≤8∧1≤x.ap∧x.ap≤2)∧bR w' c A n ar∧nN [c] w w':=by
 have av:=h.lt;have HC:=I h;clear h;go_enter Tryz.func167,Tryz.ntmps167;go_wp2_with fail
 refine (Hd _ c A n ar (HC.out.ext (ak (aj _) _))).mono ?_;rintro e w1 ⟨s1,rfl,dq,H1,hu1⟩;replace H1:=I H1;go_wp2_with fail
 refine (Hh _ c A n ar H1.out).mono ?_;rintro e w2 ⟨s2,rfl,cR,H2,b8⟩;replace H2:=I H2;go_wp2_with fail
 refine (gS 2 J _ c A n ar H2.out).mono ?_;rintro e w3 ⟨r,rfl,hr,H3,bv⟩;replace H3:=I H3;have B0:=oG.new w [.string ⟨#[]⟩,.string ⟨#[]⟩,.int .i64 0] 126;have B3:=((B0.bS hu1 J).bS b8 J).bS bv J;have q0:=B3.cell (i:=0) rfl;have q1:=B3.cell (i:=1) rfl;have q2:=B3.cell (i:=2) rfl;have f0:=B3.fz 0;have f1:=B3.fz 1;have f2:=B3.fz 2;clear B0 B3;go_wp2;refine bodyPost_ret (v:=.agg #[.string s1,.string s2,.int .i64 (1+r)]) (by simp [results,Tryz.results167,go_sem, *]) rfl ?_;exact ⟨⟨s1,s2,1+r⟩,rfl,⟨dq,cR,by dsimp only;omega,by dsimp only;omega⟩,((H3.out.bj av 0 _).bj av 1 _).bj av 2 _,((((((nN.lq [c] (ak (aj w) _)).trans hu1).trans b8).trans bv).new (Nat.le_refl _) 0 _).new (Nat.le_refl _) 1 _).new (Nat.le_refl _) 2 _⟩
theorem T7 (w:World) (c:Nat) (A:Option Addr) (n ar:Nat) (h:bR w c A n ar) :
 Calls Tryz.prog 150 #[.pointer (some ⟨c,0,none⟩)] w fun e w'=>∃x:bH,e = .returned (.agg #[.string x.key,.bool x.equal,.string x.value,.int .i64 x.ap])∧(x.key.size≤8∧x.value.size≤8∧0≤x.ap∧x.ap≤2)∧bR w' c A n ar∧nN [c] w w':=by
 have av:=h.lt;have HC:=I h;clear h;go_enter Tryz.func150,Tryz.ntmps150;go_wp2_with fail
 refine (Hd _ c A n ar (HC.out.ext (ak (aj _) _))).mono ?_;rintro e w1 ⟨s1,rfl,dq,H1,hu1⟩;replace H1:=I H1;go_wp2_with fail
 refine (gS 3 J _ c A n ar H1.out).mono ?_;rintro e w2 ⟨r,rfl,hr,H2,b8⟩;replace H2:=I H2;have X0:=oG.new w [.string ⟨#[]⟩,.bool false,.string ⟨#[]⟩,.int .i64 0] 117;have X2:=(X0.bS hu1 J).bS b8 J;have cq:=hu1.size;have cC:=b8.size;simp at cq;have cj:=H2.out.lt;have U2:=I (((nN.lq [c] (ak (aj w) _)).trans hu1).trans b8);have Y2:=oG.new w2 [.string s1,.bool false,.string ⟨#[]⟩,.int .i64 r] 117;replace X2:=X2.ext (ak (aj _) (.cells [.string s1,.bool false,.string ⟨#[]⟩,.int .i64 r].toArray 117));replace U2:=I (U2.out.alloc (.cells #[.string s1,.bool false,.string ⟨#[]⟩,.int .i64 r] 117));clear X0 hu1 b8;go_wp2_with fail
 refine (sd 2 J _ c A n ar (H2.out.ext (ak (aj _) _))).mono ?_;rintro e w3 ⟨b,rfl,H3,bv⟩;replace H3:=I H3;have X3:=X2.bS bv J;have Y3:=Y2.bS bv J;have U3:=I (U2.out.trans bv);have dm:=bv.size;simp at dm;clear X2 Y2 bv U2;cases b
 ·obtain ⟨Hi,aB7,aB8,aB9,aCa,aCb,aCc,aCd⟩:=nQ Y3;go_wp2_with fail
  refine (sd 3 J _ c A n ar H3.out).mono ?_;rintro e w4 ⟨b,rfl,H4,Td⟩;replace H4:=I H4;have X4:=X3.bS Td J;have Y4:=Y3.bS Td J;have U4:=I (U3.out.trans Td);clear Hi aB7 aB8 aB9 aCa aCb aCc aCd;clear X3 Y3 Td U3;obtain ⟨Hj,fX4_0,kX4_1,fX4_1,kX4_2,fX4_2,kX4_3,fX4_3⟩:=nQ X4;obtain ⟨OE,aFf,aFg,aFh,aFi,aFj,aFk,aFl⟩:=nQ Y4;cases b
  ·go_wp2;refine bodyPost_ret (v:=.agg #[.string s1,.bool false,.string ⟨#[]⟩,.int .i64 r]) (by simp [results,Tryz.results150,go_sem, *]) rfl ?_;exact ⟨⟨s1,false,⟨#[]⟩,r⟩,rfl,⟨dq,Nat.zero_le _,by dsimp only;omega,by dsimp only;omega⟩,((((H4.out.bj av 0 _).bj av 1 _).bj av 2 _).bj av 3 _),((((U4.out.new (Nat.le_refl _) 0 _).new (Nat.le_refl _) 1 _).new (Nat.le_refl _) 2 _).new (Nat.le_refl _) 3 _)⟩
  ·go_wp2;refine bodyPost_ret (v:=.agg #[.string ⟨#[]⟩,.bool false,.string ⟨#[]⟩,.int .i64 r]) (by simp [results,Tryz.results150,go_sem, *]) rfl ?_;exact ⟨⟨⟨#[]⟩,false,⟨#[]⟩,r⟩,rfl,⟨Nat.zero_le _,Nat.zero_le _,by dsimp only;omega,by dsimp only;omega⟩,(((((H4.out.bj J 0 _).bj av 0 _).bj av 1 _).bj av 2 _).bj av 3 _),(((((U4.out.new J 0 _).new (Nat.le_refl _) 0 _).new (Nat.le_refl _) 1 _).new (Nat.le_refl _) 2 _).new (Nat.le_refl _) 3 _)⟩
 ·obtain ⟨Hi,aB7,aB8,aB9,aCa,aCb,aCc,aCd⟩:=nQ Y3;go_wp2_with fail
  refine (Hh _ c A n ar (H3.out.bj J 1 _)).mono ?_;rintro e w4 ⟨s2,rfl,cR,H4,Td⟩;replace H4:=I H4;have X4:=(X3.bj J 1 _).bS Td J;have Y4:=(Y3.put 1 _).bS Td J;have U4:=I ((U3.out.new J 1 _).trans Td);clear Hi aB7 aB8 aB9 aCa aCb aCc aCd;clear X3 Y3 Td U3;obtain ⟨Hj,fX4_0,kX4_1,fX4_1,kX4_2,fX4_2,kX4_3,fX4_3⟩:=nQ X4;obtain ⟨OE,aFf,aFg,aFh,aFi,aFj,aFk,aFl⟩:=nQ Y4;go_wp2;refine bodyPost_ret (v:=.agg #[.string s1,.bool true,.string s2,.int .i64 r]) (by simp [results,Tryz.results150,go_sem, *]) rfl ?_;exact ⟨⟨s1,true,s2,r⟩,rfl,⟨dq,cR,by dsimp only;omega,by dsimp only;omega⟩,(((((H4.out.bj J 2 _).bj av 0 _).bj av 1 _).bj av 2 _).bj av 3 _),(((((U4.out.new J 2 _).new (Nat.le_refl _) 0 _).new (Nat.le_refl _) 1 _).new (Nat.le_refl _) 2 _).new (Nat.le_refl _) 3 _)⟩
structure o7 (g:Nat) (w w':World):Prop where
 os:w'.os = w.os
 tape:w'.tape = w.tape
 output:w'.output = w.output
 size:w'.heap.size = w.heap.size
 block:∀b,b≠g→w'.heap[b]? = w.heap[b]?
section
variable {P:Program} {w w':World} {g:Nat}
theorem oG.only {b:Nat} {cs:List Value} (h:oG w b cs) (ho:o7 g w w') (U:b≠g):oG w' b cs:=h.bm (ho.block b U)
theorem nN.only {F:List Nat} {w0:World} (h:nN F w0 w) (ho:o7 g w w') (hg:w0.heap.size≤g):nN F w0 w' :=
 ⟨ho.os.trans h.os,ho.tape.trans h.tape,ho.output.trans h.output,by rw [ho.size];exact h.size,fun i hi X=>(ho.block i J).trans (h.block i hi X)⟩
theorem bR.only {c n ar:Nat} {A:Option Addr} (h:bR w c A n ar) (ho:o7 g w w') (hg:c < g):bR w' c A n ar:=by
 obtain ⟨⟨i,x,t,Z,h2⟩,h3,h4⟩:=h;refine ⟨⟨i,x,t,(ho.block c J).trans Z,h2⟩,fun k hk=>?_,h4⟩;obtain ⟨q,o,v,e,hq,hv,gm⟩:=h3 k hk;exact ⟨q,o,v,e,hq,(World.cell?_of_block (ho.block q J)).trans hv,gm⟩
theorem am.only {α:Type} [bb α] {B:Nat} {x:α} {cs:List Value} {F:List Nat} (h:am w B x cs F) (ho:o7 g w w') (hg:∀b∈F,b≠g):am w' B x cs F :=
 h.bm (fun b U=>ho.block b (hg b U)) (by rw [ho.size];exact Nat.le_refl _)
theorem ur {w0:World} (h:Below w0.heap.size w0 w) (ho:o7 g w w') (hg:w0.heap.size≤g):Below w0.heap.size w0 w' :=
 ⟨ho.os.trans h.os,ho.tape.trans h.tape,ho.output.trans h.output,by rw [ho.size];exact h.size,fun i hi=>(ho.block i J).trans (h.block i hi)⟩
theorem oG.ue (w:World) (a b:Obj) (cs:List Value) (t:TypeId):oG (((w.alloc a).alloc b).alloc (.cells cs.toArray t)) (w.heap.size+1+1) cs:=by
 have h:=oG.new ((w.alloc a).alloc b) cs t;have e:((w.alloc a).alloc b).heap.size = w.heap.size+1+1:=by simp
 rw [e] at h;exact h
theorem oG.range {cs:List Value} (h:oG w g cs):w.rangeAt g 0 cs:=fun j v hv=>by
 rw [Nat.zero_add];exact h.cell hv
theorem ki {op:Oper} {a:Act} {K:Act→World→Prop} {Q:Exit→Act→World→Prop} (ty:TypeId) (x y:Operand) (ho:op.op = .store ty x y)
 (g o:Nat) (cs old:List Value) (hx:a.eval x = .pointer (some ⟨g,o,none⟩)) (hy:a.eval y = .agg cs.toArray) (hB:oG w g old) (hl:o+cs.length≤old.length)
 (hi:(P.info? ty).map (·.size) = some cs.length) (Z:∀v∈cs,v.oneCell' = true)
 (h:∀w',oG w' g (old.take o++cs++old.drop (o+cs.length))→o7 g w w'→K (a.put op.dst undef) w'):op.wp P a w K Q:=by
 obtain ⟨t,hg⟩:=hB;have hr:=run_storeCells_at (P:=P) g o t cs 0 old.toArray w hg (by simpa using hl) Z;have hv:(storeVar ty ⟨g,o,none⟩ (.agg cs.toArray)).run P w = .ok () (w.setRow g (old.take o++cs++old.drop (o+cs.length)).toArray):=by
  cases hq:P.info? ty with
  | none=>simp [hq] at hi
  | some i =>have hs:cs.length = i.size:=(by simp [hq] at hi;omega);simp only [Nat.add_zero,List.toList_toArray] at hr;simp [storeVar,sizeOf,typeInfo,hq,Value.cells,hs,hr]
 unfold Oper.wp execOp;simp only [ho,hx,hy,Instr.storeAt,Instr.sureAddr,Sem.run_bind,Sem.run_pure,Result.andThen_ok,hv];refine h _ ⟨t,setRow_heap w g _ _ t _ hg⟩ ⟨rfl,rfl,rfl,by simp [World.setRow],fun b U=>?_⟩;simp [World.setRow,Array.getElem?_modify,U,Ne.symm U]
theorem BF {op:Oper} {a:Act} {K:Act→World→Prop} {Q:Exit→Act→World→Prop} (ty:TypeId) (x:Operand) (ho:op.op = .load ty x)
 (g:Nat) (cs:List Value) (hx:a.eval x = .pointer (some ⟨g,0,none⟩)) (d:TypeDesc) (hB:oG w g cs) (hu:P.underlying ty = some d) (hd:d.isRow = true) (hi:(P.info? ty).map (·.size) = some cs.length)
 (h:K (a.put op.dst (.agg cs.toArray)) w):op.wp P a w K Q :=
 wp_load_mid ty x ho g 0 hx cs d hB.range hu hd hi h
theorem OF {fn:Func} {p:Tmp} {ty:TypeId} (h:fn.results = #[.cell p ty]) (tmps:Array Value) (g:Nat) (cs:List Value) (d:TypeDesc) (hp:tmps.getD p undef = .pointer (some ⟨g,0,none⟩)) (hB:oG w g cs)
 (hu:P.underlying ty = some d) (hd:(match d with | .struct _ | .array _ _=>true | _=>false) = true) (hi:(P.info? ty).map (·.size) = some cs.length):(results fn tmps).run P w = .ok (.agg cs.toArray) w:=by
 obtain ⟨t,Z⟩:=hB;exact results_cell_row h tmps w g t cs.toArray (0,0) d hp Z hu hd Yh
theorem vZ {fn:Func} {p u:Tmp} {ty:TypeId} (h:fn.results = #[.cell p ty,.tmp u]) (tmps:Array Value) (g:Nat) (cs:List Value) (d:TypeDesc) (v:Value) (hp:tmps.getD p undef = .pointer (some ⟨g,0,none⟩)) (hv:tmps.getD u undef = v) (hB:oG w g cs)
 (hu:P.underlying ty = some d) (hd:d.isRow = true) (hi:(P.info? ty).map (·.size) = some cs.length):(results fn tmps).run P w = .ok (.tuple #[.agg cs.toArray,v]) w:=by
 have hr:=run_loadVar_mid (P:=P) w g 0 ty cs d hB.range hu hd hi;have FF:tmps[p]?.getD undef = .pointer (some ⟨g,0,none⟩):=by simpa using hp
 have hv':tmps[u]?.getD undef = v:=by simpa using hv
 simp [results,h,FF,hv',asAddr,hr]
end
end Go.Proofs.YtajbbmembionpaaGreat
