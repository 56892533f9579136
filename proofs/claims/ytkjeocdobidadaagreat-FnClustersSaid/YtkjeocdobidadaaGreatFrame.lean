/- The frame of every law's proof: if the call returns true and leaves what was there as it was, the given post holds. No condition. -/
import Derived.Test.YtkjeocdobidadaaGreatRows
import Derived.WalkKit
import Derived.ProofKit
import Derived.OpenShut
import Derived.Lib.Hide
import Derived.BigQuiet
import Derived.Deep.QuietTactic
import Derived.WalkSpells
import Derived.Deep.DeepFit
import Derived.Deep.AppendLies
import Derived.OwnWalk
import Derived.Deep.Slices
import Derived.Handy
namespace Go.Proofs.YtkjeocdobidadaaGreat
open Go.ChangeShapes Go.WideShapes Go.ChangeAt Go.RowKit
set_option maxRecDepth 100000
theorem I' {P:Prop} (h:P):Hid P:=Lib.hid h
theorem O' {P:Prop} (h:P:=by omega):P:=h
theorem J' {P:Prop} (h:P:=by rfl):P:=h
theorem U' {P:Prop} (h:P:=by kernel_rfl):P:=h
theorem S' {P:Prop} (h:P:=by simp):P:=h
theorem N' {P:Prop} (h:P:=by go_num):P:=h
theorem Y' {P:Prop} (h:P:=by assumption):P:=h
theorem Zaaa {P:Prop} (h:P:=by
 intro HK;have hbx:Below wn.heap.size wn wn.drew:=aA (aj _)
 refine aX 1 _ J' U' (fun _ _ d _ _ h=>by cases d <;> exact h) hbx (Or.inl ⟨rfl,fun wq hq=>by
  have hcq:=(aB hq).1;go_simp
  try rfl⟩) ?_
 try simp only [Act.put,pz]
 refine aX 2 _ J' U' (fun _ _ d _ _ h=>by cases d <;> exact h) hbx (Or.inl ⟨rfl,fun wq hq=>by
  have hcq:=(aB hq).1;go_simp
  try rfl⟩) ?_
 try simp only [Act.put,pz]
 refine aX 3 _ J' U' (fun _ _ d _ _ h=>by cases d <;> exact h) hbx (Or.inl ⟨rfl,fun wq hq=>by
  have hcq:=(aB hq).1;go_simp
  try rfl⟩) ?_
 try simp only [Act.put,pz]
 refine aX 5 _ J' U' (fun _ _ d _ _ h=>by cases d <;> exact h) hbx (Or.inl ⟨rfl,fun wq hq=>by
  have hcq:=(aB hq).1;go_simp
  try rfl⟩) ?_
 try simp only [Act.put,pz]
 refine aX 6 _ J' U' (fun _ _ d _ _ h=>by cases d <;> exact h) hbx (Or.inl ⟨rfl,fun wq hq=>by
  have hcq:=(aB hq).1;go_simp
  try rfl⟩) ?_
 try simp only [Act.put,pz]
 refine aX 7 _ J' U' (fun _ _ d _ _ h=>by cases d <;> exact h) hbx (Or.inl ⟨rfl,fun wq hq=>by
  have hcq:=(aB hq).1;go_simp
  try rfl⟩) ?_
 try simp only [Act.put,pz]
 refine aX 8 _ J' U' (fun _ _ d _ _ h=>by cases d <;> exact h) hbx (Or.inl ⟨rfl,fun wq hq=>by
  have hcq:=(aB hq).1;go_simp
  try rfl⟩) ?_
 try simp only [Act.put,pz]
 refine D7 0 9 J' J' U' J' J' (fun K hK=>?_) (fun K hK=>?_)
 ·go_simp;refine hK _ _ (ak hbx (.cells #[] 9)) ?_;try simp only [Act.put,pz]
  clear hK K;have Qz:=ak hbx (.cells #[] 9);have hrA:=D9 wn.drew 9 1 wn.heap.size rfl;refine D7 4 9 J' J' U' J' J' (fun K hK=>?_) (fun K hK=>?_)
  ·refine qQ qw _ _ J' (wn.drew.alloc (.cells #[] 9)) wn.heap.size _ 0 [] hrA J' ⟨g,0,none⟩ jj cap ((s1.map Value.string)) J' auP (fun q u hu=>(Qz.cell (p:=(⟨g,0,none⟩:Addr).add q) auX).trans (HNC.out q u hu)) (fun u hu=>by obtain ⟨z0,_,rfl⟩:=List.mem_map.1 hu;rfl) O' O' auI ?_;intro v5 w5 hown5 hg5 aaQ;have hb5:Below wn.heap.size wn w5:=Below.grown (Qz) hg5 auI (fun q hq=>(hrA.lt q hq).1);refine hK _ _ hb5 ?_;try simp only [Act.put,pz]
   clear hK K;refine bP 9 J' U' J' (fun K hK=>?_);go_simp;refine hK _ _ (ak hb5 (.cells #[.string y] 9)) ?_;try simp only [Act.put,pz]
   clear hK K;have hbB:=ak hb5 (.cells #[.string y] 9);refine bP 10 J' U' J' (fun K hK=>?_);refine qQ qw _ _ J' (w5.alloc (.cells #[.string y] 9)) wn.heap.size v5 _ _ (mG hown5 (ak (aj _) _)) J' ⟨w5.heap.size,0,none⟩ 1 1 [.string y] J' J' (DI w5 9 [.string y] w5.heap.size rfl) (fun u hu=>by rw [List.mem_singleton.1 hu];rfl) O' O' auJ ?_;intro v7 w7 nK Ua ab7;rw [show 0+jj = jj by omega,List.nil_append] at nK;obtain ⟨g9,p9,hv7,hgb,hgp,hgl⟩:=wW nK O';subst hv7;have hb7:Below wn.heap.size wn w7:=Below.grown (hbB) Ua auJ (fun q hq=>(hown5.lt q hq).1);exact Zaei
  ·go_simp;refine hK _ _ (ak Qz (.cells #[.string y] 9)) ?_;try simp only [Act.put,pz]
   clear hK K;have hbB:=ak Qz (.cells #[.string y] 9);replace hrA:=mG hrA (ak (aj _) (.cells #[.string y] 9));refine bP 4 J' U' J' (fun K hK=>?_);refine qQ qw _ _ J' ((wn.drew.alloc (.cells #[] 9)).alloc (.cells #[.string y] 9)) wn.heap.size _ 0 [] hrA J' ⟨g,0,none⟩ jj cap ((s1.map Value.string)) J' auP (fun q u hu=>(hbB.cell (p:=(⟨g,0,none⟩:Addr).add q) auX).trans (HNC.out q u hu)) (fun u hu=>by obtain ⟨z0,_,rfl⟩:=List.mem_map.1 hu;rfl) O' O' auJ ?_;intro v5 w5 hown5 hg5 aaQ;have hb5:Below wn.heap.size wn w5:=Below.grown (hbB) hg5 auJ (fun q hq=>(hrA.lt q hq).1);refine hK _ _ hb5 ?_;try simp only [Act.put,pz]
   clear hK K;refine bP 10 J' U' J' (fun K hK=>?_);refine qQ qw _ _ J' w5 wn.heap.size v5 _ _ hown5 J' ⟨wn.heap.size+1,0,none⟩ 1 1 [.string y] J' J' (fun q u hu=>(World.cell?_of_block awP).trans ((DI (wn.drew.alloc (.cells #[] 9)) 9 [.string y] (wn.heap.size+1) S') q u hu)) (fun u hu=>by rw [List.mem_singleton.1 hu];rfl) O' O' auK ?_;exact Zafy
 ·go_simp;refine hK _ _ (ak hbx (.cells #[.string y] 9)) ?_;try simp only [Act.put,pz]
  clear hK K;have hbB:=ak hbx (.cells #[.string y] 9);refine bP 0 J' U' J' (fun K hK=>?_);go_simp;refine hK _ _ (ak hbB (.cells #[] 9)) ?_;try simp only [Act.put,pz]
  clear hK K;have Qz:=ak hbB (.cells #[] 9);have hrA:=vP (D9 (wn.drew.alloc (.cells #[.string y] 9)) 9 1 (wn.heap.size+1) S') (B':=wn.heap.size) O';refine bP 4 J' U' J' (fun K hK=>?_);refine qQ qw _ _ J' ((wn.drew.alloc (.cells #[.string y] 9)).alloc (.cells #[] 9)) wn.heap.size _ 0 [] hrA J' ⟨g,0,none⟩ jj cap ((s1.map Value.string)) J' auP (fun q u hu=>(Qz.cell (p:=(⟨g,0,none⟩:Addr).add q) auX).trans (HNC.out q u hu)) (fun u hu=>by obtain ⟨z0,_,rfl⟩:=List.mem_map.1 hu;rfl) O' O' auI ?_;intro v5 w5 hown5 hg5 aaQ;have hb5:Below wn.heap.size wn w5:=Below.grown (Qz) hg5 auI (fun q hq=>(hrA.lt q hq).1);refine hK _ _ hb5 ?_;try simp only [Act.put,pz]
  clear hK K;refine bP 10 J' U' J' (fun K hK=>?_);refine qQ qw _ _ J' w5 wn.heap.size v5 _ _ hown5 J' ⟨wn.heap.size,0,none⟩ 1 1 [.string y] J' J' (fun q u hu=>(World.cell?_of_block awQ).trans ((DI wn.drew 9 [.string y] wn.heap.size rfl) q u hu)) (fun u hu=>by rw [List.mem_singleton.1 hu];rfl) O' O' auK ?_
  exact Zafy):P:=h
theorem Zaab {P:Prop} (h:P:=by
 exact Zafy):P:=h
theorem Zaac {P:Prop} (h:P:=by
 intro HK;have hbx:Below wn.heap.size wn wn.drew:=aA (aj _)
 refine aX 1 _ J' U' (fun _ _ d _ _ h=>by cases d <;> exact h) hbx (Or.inl ⟨rfl,fun wq hq=>by
  have hcq:=(aB hq).1;go_simp
  try rfl⟩) ?_
 try simp only [Act.put,pz]
 refine aX 2 _ J' U' (fun _ _ d _ _ h=>by cases d <;> exact h) hbx (Or.inl ⟨rfl,fun wq hq=>by
  have hcq:=(aB hq).1;go_simp
  try rfl⟩) ?_
 try simp only [Act.put,pz]
 refine aX 3 _ J' U' (fun _ _ d _ _ h=>by cases d <;> exact h) hbx (Or.inl ⟨rfl,fun wq hq=>by
  have hcq:=(aB hq).1;go_simp
  try rfl⟩) ?_
 try simp only [Act.put,pz]
 refine aX 4 _ J' U' (fun _ _ d _ _ h=>by cases d <;> exact h) hbx (Or.inl ⟨rfl,fun wq hq=>by
  have hcq:=(aB hq).1;go_simp
  try rfl⟩) ?_
 try simp only [Act.put,pz]
 refine aX 6 _ J' U' (fun _ _ d _ _ h=>by cases d <;> exact h) hbx (Or.inl ⟨rfl,fun wq hq=>by
  have hcq:=(aB hq).1;go_simp
  try rfl⟩) ?_
 try simp only [Act.put,pz]
 refine aX 7 _ J' U' (fun _ _ d _ _ h=>by cases d <;> exact h) hbx (Or.inl ⟨rfl,fun wq hq=>by
  have hcq:=(aB hq).1;go_simp
  try rfl⟩) ?_
 try simp only [Act.put,pz]
 refine aX 8 _ J' U' (fun _ _ d _ _ h=>by cases d <;> exact h) hbx (Or.inl ⟨rfl,fun wq hq=>by
  have hcq:=(aB hq).1;go_simp
  try rfl⟩) ?_
 try simp only [Act.put,pz]
 refine aX 9 _ J' U' (fun _ _ d _ _ h=>by cases d <;> exact h) hbx (Or.inl ⟨rfl,fun wq hq=>by
  have hcq:=(aB hq).1;go_simp
  try rfl⟩) ?_
 try simp only [Act.put,pz]
 refine D7 0 10 J' J' U' J' J' (fun K hK=>?_) (fun K hK=>?_)
 ·go_simp;refine hK _ _ (ak hbx (.cells #[] 53)) ?_;try simp only [Act.put,pz]
  clear hK K;have Qz:=ak hbx (.cells #[] 53);have hrA:=D9 wn.drew 53 9 wn.heap.size rfl;refine D7 5 10 J' J' U' J' J' (fun K hK=>?_) (fun K hK=>?_)
  ·refine qQ elIPlaced _ _ J' (wn.drew.alloc (.cells #[] 53)) wn.heap.size _ 0 [] hrA J' ⟨g,0,none⟩ k dJ ((ds.take (k * 9))) J' (by rw [List.length_take,hdl];omega) (fun q u hu=>(Qz.cell (p:=(⟨g,0,none⟩:Addr).add q) auX).trans (HNC.out q u hu)) (fun u hu=>HONE.out u (List.mem_of_mem_take hu)) O' O' auI ?_;intro v5 w5 hown5 hg5 aaQ;have hb5:Below wn.heap.size wn w5:=Below.grown (Qz) hg5 auI (fun q hq=>(hrA.lt q hq).1);refine hK _ _ hb5 ?_;try simp only [Act.put,pz]
   clear hK K;refine bP 10 J' U' J' (fun K hK=>?_);go_simp;refine hK _ _ (ak hb5 (.cells #[.string n.name,.slice bY n.labels.length bZ,.int .i64 n.cpu,.int .i64 n.mem,.int .i64 n.rank,.slice eU n.needs.length eX,.slice bg n.tolerances.length bn,.string ⟨#[]⟩,.int .i64 x.next] 53)) ?_;try simp only [Act.put,pz]
   clear hK K;have hbB:=ak hb5 (.cells #[.string n.name,.slice bY n.labels.length bZ,.int .i64 n.cpu,.int .i64 n.mem,.int .i64 n.rank,.slice eU n.needs.length eX,.slice bg n.tolerances.length bn,.string ⟨#[]⟩,.int .i64 x.next] 53);refine bP 11 J' U' J' (fun K hK=>?_);refine qQ elIPlaced _ _ J' (w5.alloc (.cells #[.string n.name,.slice bY n.labels.length bZ,.int .i64 n.cpu,.int .i64 n.mem,.int .i64 n.rank,.slice eU n.needs.length eX,.slice bg n.tolerances.length bn,.string ⟨#[]⟩,.int .i64 x.next] 53)) wn.heap.size v5 _ _ (mG hown5 (ak (aj _) _)) J' ⟨w5.heap.size,0,none⟩ 1 1 [.string n.name,.slice bY n.labels.length bZ,.int .i64 n.cpu,.int .i64 n.mem,.int .i64 n.rank,.slice eU n.needs.length eX,.slice bg n.tolerances.length bn,.string ⟨#[]⟩,.int .i64 x.next] J' J' (DI w5 53 [.string n.name,.slice bY n.labels.length bZ,.int .i64 n.cpu,.int .i64 n.mem,.int .i64 n.rank,.slice eU n.needs.length eX,.slice bg n.tolerances.length bn,.string ⟨#[]⟩,.int .i64 x.next] w5.heap.size rfl) HN1.out O' O' auJ ?_;intro v7 w7 nK Ua ab7;rw [show 0+k = k by omega,List.nil_append] at nK;obtain ⟨g9,p9,hv7,hgb,hgp,hgl⟩:=wW nK O';subst hv7;have hb7:Below wn.heap.size wn w7:=Below.grown (hbB) Ua auJ (fun q hq=>(hown5.lt q hq).1);exact Zaem
  ·go_simp;refine hK _ _ (ak Qz (.cells #[.string n.name,.slice bY n.labels.length bZ,.int .i64 n.cpu,.int .i64 n.mem,.int .i64 n.rank,.slice eU n.needs.length eX,.slice bg n.tolerances.length bn,.string ⟨#[]⟩,.int .i64 x.next] 53)) ?_;try simp only [Act.put,pz]
   clear hK K;have hbB:=ak Qz (.cells #[.string n.name,.slice bY n.labels.length bZ,.int .i64 n.cpu,.int .i64 n.mem,.int .i64 n.rank,.slice eU n.needs.length eX,.slice bg n.tolerances.length bn,.string ⟨#[]⟩,.int .i64 x.next] 53);replace hrA:=mG hrA (ak (aj _) (.cells #[.string n.name,.slice bY n.labels.length bZ,.int .i64 n.cpu,.int .i64 n.mem,.int .i64 n.rank,.slice eU n.needs.length eX,.slice bg n.tolerances.length bn,.string ⟨#[]⟩,.int .i64 x.next] 53));refine bP 5 J' U' J' (fun K hK=>?_);refine qQ elIPlaced _ _ J' ((wn.drew.alloc (.cells #[] 53)).alloc (.cells #[.string n.name,.slice bY n.labels.length bZ,.int .i64 n.cpu,.int .i64 n.mem,.int .i64 n.rank,.slice eU n.needs.length eX,.slice bg n.tolerances.length bn,.string ⟨#[]⟩,.int .i64 x.next] 53)) wn.heap.size _ 0 [] hrA J' ⟨g,0,none⟩ k dJ ((ds.take (k * 9))) J' (by rw [List.length_take,hdl];omega) (fun q u hu=>(hbB.cell (p:=(⟨g,0,none⟩:Addr).add q) auX).trans (HNC.out q u hu)) (fun u hu=>HONE.out u (List.mem_of_mem_take hu)) O' O' auJ ?_;intro v5 w5 hown5 hg5 aaQ;have hb5:Below wn.heap.size wn w5:=Below.grown (hbB) hg5 auJ (fun q hq=>(hrA.lt q hq).1);refine hK _ _ hb5 ?_;try simp only [Act.put,pz]
   clear hK K;refine bP 11 J' U' J' (fun K hK=>?_);refine qQ elIPlaced _ _ J' w5 wn.heap.size v5 _ _ hown5 J' ⟨wn.heap.size+1,0,none⟩ 1 1 [.string n.name,.slice bY n.labels.length bZ,.int .i64 n.cpu,.int .i64 n.mem,.int .i64 n.rank,.slice eU n.needs.length eX,.slice bg n.tolerances.length bn,.string ⟨#[]⟩,.int .i64 x.next] J' J' (fun q u hu=>(World.cell?_of_block awP).trans ((DI (wn.drew.alloc (.cells #[] 53)) 53 [.string n.name,.slice bY n.labels.length bZ,.int .i64 n.cpu,.int .i64 n.mem,.int .i64 n.rank,.slice eU n.needs.length eX,.slice bg n.tolerances.length bn,.string ⟨#[]⟩,.int .i64 x.next] (wn.heap.size+1) S') q u hu)) HN1.out O' O' auK ?_;exact Zaf0
 ·go_simp;refine hK _ _ (ak hbx (.cells #[.string n.name,.slice bY n.labels.length bZ,.int .i64 n.cpu,.int .i64 n.mem,.int .i64 n.rank,.slice eU n.needs.length eX,.slice bg n.tolerances.length bn,.string ⟨#[]⟩,.int .i64 x.next] 53)) ?_;try simp only [Act.put,pz]
  clear hK K;have hbB:=ak hbx (.cells #[.string n.name,.slice bY n.labels.length bZ,.int .i64 n.cpu,.int .i64 n.mem,.int .i64 n.rank,.slice eU n.needs.length eX,.slice bg n.tolerances.length bn,.string ⟨#[]⟩,.int .i64 x.next] 53);refine bP 0 J' U' J' (fun K hK=>?_);go_simp;refine hK _ _ (ak hbB (.cells #[] 53)) ?_;try simp only [Act.put,pz]
  clear hK K;have Qz:=ak hbB (.cells #[] 53);have hrA:=vP (D9 (wn.drew.alloc (.cells #[.string n.name,.slice bY n.labels.length bZ,.int .i64 n.cpu,.int .i64 n.mem,.int .i64 n.rank,.slice eU n.needs.length eX,.slice bg n.tolerances.length bn,.string ⟨#[]⟩,.int .i64 x.next] 53)) 53 9 (wn.heap.size+1) S') (B':=wn.heap.size) O';refine bP 5 J' U' J' (fun K hK=>?_);refine qQ elIPlaced _ _ J' ((wn.drew.alloc (.cells #[.string n.name,.slice bY n.labels.length bZ,.int .i64 n.cpu,.int .i64 n.mem,.int .i64 n.rank,.slice eU n.needs.length eX,.slice bg n.tolerances.length bn,.string ⟨#[]⟩,.int .i64 x.next] 53)).alloc (.cells #[] 53)) wn.heap.size _ 0 [] hrA J' ⟨g,0,none⟩ k dJ ((ds.take (k * 9))) J' (by rw [List.length_take,hdl];omega) (fun q u hu=>(Qz.cell (p:=(⟨g,0,none⟩:Addr).add q) auX).trans (HNC.out q u hu)) (fun u hu=>HONE.out u (List.mem_of_mem_take hu)) O' O' auI ?_;intro v5 w5 hown5 hg5 aaQ;have hb5:Below wn.heap.size wn w5:=Below.grown (Qz) hg5 auI (fun q hq=>(hrA.lt q hq).1);refine hK _ _ hb5 ?_;try simp only [Act.put,pz]
  clear hK K;refine bP 11 J' U' J' (fun K hK=>?_);refine qQ elIPlaced _ _ J' w5 wn.heap.size v5 _ _ hown5 J' ⟨wn.heap.size,0,none⟩ 1 1 [.string n.name,.slice bY n.labels.length bZ,.int .i64 n.cpu,.int .i64 n.mem,.int .i64 n.rank,.slice eU n.needs.length eX,.slice bg n.tolerances.length bn,.string ⟨#[]⟩,.int .i64 x.next] J' J' (fun q u hu=>(World.cell?_of_block awQ).trans ((DI wn.drew 53 [.string n.name,.slice bY n.labels.length bZ,.int .i64 n.cpu,.int .i64 n.mem,.int .i64 n.rank,.slice eU n.needs.length eX,.slice bg n.tolerances.length bn,.string ⟨#[]⟩,.int .i64 x.next] wn.heap.size rfl) q u hu)) HN1.out O' O' auK ?_
  exact Zaf0):P:=h
theorem Zaad {P:Prop} (h:P:=by
 try simp only [Bool.and_false,Bool.and_true,Bool.false_and,Bool.and_self] at hp
 have HN:=I' (gq hall.out hp);clear hp;go_wp2_with fail
 skip
 refine aF _ U' U' (aj _) ?_
 repeat (first
  | (apply aG
     case hw=>rfl
     simp only [Act.put,pz])
  | (apply aH
     case hw=>rfl
     case h =>exact Zaer
     simp only [Act.put,pz]))
 refine aN ?_;intro wn hn;replace hn:=hn.out;obtain ⟨hcn,hfn⟩:=ay hn;have hzn:w.heap.size < wn.heap.size:=sq hn.size;have hyn:b' < wn.heap.size:=sq hn.size;try (have hxn:wr.heap.size < wn.heap.size:=sq hn.size)
 have hWn:Below wr.heap.size wr wn:=atS;have hs8:wn.cell? ⟨wr.heap.size,8,none⟩ = some (.int .i64 x.au[j+1].seq):=by rw [hcn _ _ S',cell_of_row _ _ _ _ _ _ (heap_alloc_new wr _)];rfl
 have anN:(j+1:Nat) < 12:=by omega
 obtain ⟨wo,hwo⟩:∃wo,wo = wr:=⟨_,rfl⟩;subst hwo;go_wp2_with fail
 go_loopw [5] (fun i2 wi=>∃q:Nat,q≤j+1∧i2 = .int .i64 q∧Hid (∀u∈x.au.take q,(u.seq == x.au[j+1].seq) = false)∧Below wn.heap.size wn wi) (fun i2 _=>j+1 - (intOf i2).toNat)
 case atStart=>exact ⟨0,Nat.zero_le _,rfl,by show ∀_,_;simp,aj _⟩
 case round =>
  obtain ⟨q,hq,rfl,HQ,hbi⟩:=hrel;have Fp:Below wo.heap.size wo wr:=ah hWn hbi;have hBi:Below w.heap.size w wr:=ah hBr Fp;have ci0:=(ay Fp).1 _ 0 tX |>.trans c0;have ci1:=(ay Fp).1 _ 1 tX |>.trans c1;have ci2:=(ay Fp).1 _ 2 tX |>.trans c2;have ci3:=(ay Fp).1 _ 3 tX |>.trans c3;have ci4:=(ay Fp).1 _ 4 tX |>.trans c4;have ci5:=(ay Fp).1 _ 5 tX |>.trans c5;replace hs8:=((ay hbi).1 _ _ O').trans hs8;have hzi:w.heap.size < wr.heap.size:=by have:=Fp.size;omega
  have hxi:wo.heap.size < wr.heap.size:=by have:=hbi.size;omega
  by_cases hqk:q < j+1
  ·obtain ⟨b6,o6,ck6,Fk6,e,hbF6,LU,hr6,aqC,hc6⟩:=Sl.get (α:=Placed) (c:=bW) dM (show q < x.au.length by omega);have afi:=hr6;obtain ⟨Ho,Hq,Xm,JK,JL,aan,AL,AO,Oz,anO,anP,acM,Xn,afj,afk,acN,aao,OA,hon6,aqD⟩:=kE afi;subst anO;obtain ⟨rfl,rfl⟩:b6 = b'∧o6 = o':=by simpa using e.symm
   clear e;have m0:w.cell? ⟨b6,o6+q * 9,none⟩ = some (.string x.au[q].aS.name):=(by exact hc6 0 _ rfl);have m1:w.cell? ⟨b6,o6+q * 9+1,none⟩ = some (.slice Ho x.au[q].aS.labels.length Hq):=(by rw [Nat.add_assoc];exact hc6 1 _ rfl);have m2:w.cell? ⟨b6,o6+q * 9+2,none⟩ = some (.int .i64 x.au[q].aS.cpu):=(by rw [Nat.add_assoc];exact hc6 2 _ rfl);have m3:w.cell? ⟨b6,o6+q * 9+3,none⟩ = some (.int .i64 x.au[q].aS.mem):=(by rw [Nat.add_assoc];exact hc6 3 _ rfl);have m4:w.cell? ⟨b6,o6+q * 9+4,none⟩ = some (.int .i64 x.au[q].aS.rank):=(by rw [Nat.add_assoc];exact hc6 4 _ rfl);have m5:w.cell? ⟨b6,o6+q * 9+5,none⟩ = some (.slice JK x.au[q].aS.needs.length JL):=(by rw [Nat.add_assoc];exact hc6 5 _ rfl);have m6:w.cell? ⟨b6,o6+q * 9+6,none⟩ = some (.slice AL x.au[q].aS.tolerances.length AO):=(by rw [Nat.add_assoc];exact hc6 6 _ rfl);have m7:w.cell? ⟨b6,o6+q * 9+7,none⟩ = some (.string x.au[q].on):=(by rw [Nat.add_assoc];exact hc6 7 _ rfl);have m8:w.cell? ⟨b6,o6+q * 9+8,none⟩ = some (.int .i64 x.au[q].seq):=(by rw [Nat.add_assoc];exact hc6 8 _ rfl);clear hc6 afi anP;replace m8:=((ay hBi).1 _ _ LU).trans m8;have hyi:b6 < wr.heap.size:=(by have:=hBi.size;omega);have hqi:(q:Int) < ((j+1:Nat):Int):=O';have hql:q < x.au.length:=O';cases hse:(x.au[q].seq == x.au[j+1].seq) with
   | true =>
     have hsn:seenIn (x.au.take (j+1)) x.au[j+1].seq = true:=by unfold seenIn;rw [List.any_eq_true];exact ⟨x.au[q],by rw [List.mem_take_iff_getElem];exact ⟨q,O',rfl⟩,hse⟩
     have HF:=I' (DR hlt av2);go_wp2_with fail
     refine aF _ U' U' (aj _) ?_
     repeat (first
      | (apply aG
         case hw=>rfl
         simp only [Act.put,pz])
      | (apply aH
         case hw=>rfl
         case h =>exact Zaey
         simp only [Act.put,pz]))
     refine aN ?_;intro wz hz;replace hz:=hz.out;exact Zaf3
   | false =>
     have HQ2:=I' (yQ (p:=fun u:Placed=>u.seq == x.au[j+1].seq) hql HQ.out hse);go_wp2_with fail
     refine aF _ U' U' (aj _) ?_
     repeat (first
      | (apply aG
         case hw=>rfl
         simp only [Act.put,pz])
      | (apply aH
         case hw=>rfl
         case h =>exact Zaey
         simp only [Act.put,pz]))
     refine aN ?_;intro wz hz;replace hz:=hz.out;go_wp2;exact ⟨⟨q+1,O',N',HQ2.out,atS⟩,by simp [intOf];omega⟩
  ·obtain rfl:q = j+1:=by omega
   have hsn:seenIn (x.au.take (j+1)) x.au[j+1].seq = false:=by unfold seenIn;rw [List.any_eq_false];intro u hu;have:=HQ.out u hu;simp [this]
   have Gn:=I' (gq hfresh.out (show DN x.au (j+1) = true by rw [sG hlt,hsn];rfl));clear hsn;go_wp2
   exact ⟨⟨j+1+1,O',N',HN.out,Gn.out,ah hbl Fp⟩,by simp [intOf];omega⟩):P:=h
theorem Zaae {P:Prop} (h:P:=by
 exact Zaei):P:=h
theorem Zaaf {P:Prop} (h:P:=by
 have HS1:=I' hS1;have HS2:=I' hS2;have H1:=I' he1;have H2:=I' he2;clear hS1 hS2 he1 he2;go_enter Tryz.func143,Tryz.ntmps143;go_wp2_with fail
 refine (gQ x _ _ nm _ (aJ h atS) hlen).mono ?_;rw [HI.out];rintro e w2 ⟨rfl,hb2⟩;obtain ⟨hc2,hf2⟩:=ay hb2;have hz2:w.heap.size < w2.heap.size:=(sq hb2.size);have hy2:w.heap.size+1 < w2.heap.size:=(sq hb2.size);have hB2:Below w.heap.size w w2:=atS;go_wp2_with fail
 refine (jm x _ _ nm _ (aJ h atS) vk).mono ?_;rw [HU.out];rintro e w3 ⟨rfl,hb3⟩;obtain ⟨hc3,hf3⟩:=ay hb3;have hz3:w.heap.size < w3.heap.size:=(sq hb3.size);have hy3:w.heap.size+1 < w3.heap.size:=(sq hb3.size);have hB3:Below w.heap.size w w3:=ah hB2 hb3;replace q0:=((ay hB3).1 bh _ hbs).trans q0;replace q1:=((ay hB3).1 bh _ hbs).trans q1;replace q2:=((ay hB3).1 bh _ hbs).trans q2;replace q3:=((ay hB3).1 bh _ hbs).trans q3;replace q4:=((ay hB3).1 bh _ hbs).trans q4;replace q5:=((ay hB3).1 bh _ hbs).trans q5;have jd:bh < w3.heap.size:=by have:=hB3.size;omega
 go_wp2_with fail
 refine (oQ a p.cpu _ ha kQ).mono ?_;rw [H1.out];rintro e w4 ⟨rfl,hb4⟩;obtain ⟨hc4,hf4⟩:=ay hb4;have Wy:w.heap.size < w4.heap.size:=(sq hb4.size);have hy4:w.heap.size+1 < w4.heap.size:=(sq hb4.size);go_wp2_with fail
 refine (oQ b p.mem _ hb lg).mono ?_;rw [H2.out];rintro e w5 ⟨rfl,hb5⟩;obtain ⟨hc5,hf5⟩:=ay hb5;have Es:w.heap.size < w5.heap.size:=(sq hb5.size);have IV:w.heap.size+1 < w5.heap.size:=(sq hb5.size);have Dc:Below w3.heap.size w3 w5:=ah hb4 hb5;replace q0:=((ay Dc).1 bh _ jd).trans q0;replace q1:=((ay Dc).1 bh _ jd).trans q1;replace q2:=((ay Dc).1 bh _ jd).trans q2;replace q3:=((ay Dc).1 bh _ jd).trans q3;replace q4:=((ay Dc).1 bh _ jd).trans q4;replace q5:=((ay Dc).1 bh _ jd).trans q5;have afO:bh < w5.heap.size:=by have:=Dc.size;omega
 go_wp2_with fail
 refine aF w5 U' U' (aj _) ?_
 repeat (first
  | (apply aG
     case hw=>rfl
     simp only [Act.put,pz])
  | (apply aH
     case hw=>rfl
     case h =>
      intro wq hq;have hcq:=(aB hq).1;have lJ:=(aB hq).2;go_simp
      first
       | exact ⟨hq,rfl⟩
       | exact ⟨aQ hq _,rfl⟩
       | ((refine (IB _ _ _ aug aug).mono ?_;(first | rw [HS1.out] | rw [HS2.out]);rintro e wz ⟨rfl,nV⟩;exact ⟨rfl,aI hq nV⟩))
       | (simp only [↓IntWalk.iteOmega];exact ⟨hq,rfl⟩)
     simp only [Act.put,pz]))
 refine aN ?_;intro wn hn;replace hn:=hn.out;go_wp2;go_ret
 exact ⟨by rw [HF.out];first | rfl | (simp;exact HW2.out),ah hB3 (ah Dc hn)⟩):P:=h
theorem Zaag {P:Prop} (h:P:=by
 try simp only [Bool.and_false,Bool.and_true,Bool.false_and,Bool.and_self] at hp
 have HF:=I' (dW hlt hp);clear hp;go_wp2_with (go_at_call 12;refine (iQ x _ _ x.hosts[j+1].name _ (aJ h atS) Ji.out).mono ?_;rw [HU.out];rintro e w5 ⟨rfl,hb5⟩;obtain ⟨hc5,hf5⟩:=ay hb5;have Es:w.heap.size < w5.heap.size:=(sq hb5.size);have IV:b' < w5.heap.size:=(sq hb5.size);(try have hx5:wr.heap.size < w5.heap.size:=(sq hb5.size)))
 clear q0 q1 q2 q3 q4 q5;refine aF _ U' U' (aj _) ?_
 repeat (first
  | (apply aG
     case hw=>rfl
     simp only [Act.put,pz])
  | (apply aH
     case hw=>rfl
     case h =>exact Zaew
     simp only [Act.put,pz]))
 exact Zaeu):P:=h
theorem Zaah {P:Prop} (h:P:=by
 intro HK;have hbx:Below wn.heap.size wn wn.drew:=aA (aj _)
 refine aX 1 _ J' U' (fun _ _ d _ _ h=>by cases d <;> exact h) hbx (Or.inl ⟨rfl,fun wq hq=>by
  have hcq:=(aB hq).1;go_simp
  try rfl⟩) ?_
 try simp only [Act.put,pz]
 refine aX 2 _ J' U' (fun _ _ d _ _ h=>by cases d <;> exact h) hbx (Or.inl ⟨rfl,fun wq hq=>by
  have hcq:=(aB hq).1;go_simp
  try rfl⟩) ?_
 try simp only [Act.put,pz]
 refine aX 3 _ J' U' (fun _ _ d _ _ h=>by cases d <;> exact h) hbx (Or.inl ⟨rfl,fun wq hq=>by
  have hcq:=(aB hq).1;go_simp
  try rfl⟩) ?_
 try simp only [Act.put,pz]
 refine aX 4 _ J' U' (fun _ _ d _ _ h=>by cases d <;> exact h) hbx (Or.inl ⟨rfl,fun wq hq=>by
  have hcq:=(aB hq).1;go_simp
  try rfl⟩) ?_
 try simp only [Act.put,pz]
 refine aX 6 _ J' U' (fun _ _ d _ _ h=>by cases d <;> exact h) hbx (Or.inl ⟨rfl,fun wq hq=>by
  have hcq:=(aB hq).1;go_simp
  try rfl⟩) ?_
 try simp only [Act.put,pz]
 refine D7 0 7 J' J' U' J' J' (fun K hK=>?_) (fun K hK=>?_)
 ·go_simp;refine hK _ _ (ak hbx (.cells #[] 42)) ?_;try simp only [Act.put,pz]
  clear hK K;have Qz:=ak hbx (.cells #[] 42);have hrA:=D9 wn.drew 42 6 wn.heap.size rfl;refine D7 5 7 J' J' U' J' J' (fun K hK=>?_) (fun K hK=>?_)
  ·refine qQ elIHost _ _ J' (wn.drew.alloc (.cells #[] 42)) wn.heap.size _ 0 [] hrA J' ⟨g,0,none⟩ k bV ((ds.take (k * 6))) J' (by rw [List.length_take,hdl];omega) (fun q u hu=>(Qz.cell (p:=(⟨g,0,none⟩:Addr).add q) auX).trans (HNC.out q u hu)) (fun u hu=>HONE.out u (List.mem_of_mem_take hu)) O' O' auI ?_;intro v5 w5 hown5 hg5 aaQ;have hb5:Below wn.heap.size wn w5:=Below.grown (Qz) hg5 auI (fun q hq=>(hrA.lt q hq).1);refine hK _ _ hb5 ?_;try simp only [Act.put,pz]
   clear hK K;refine bP 7 J' U' J' (fun K hK=>?_);go_simp;refine hK _ _ (ak hb5 (.cells #[.string n.name,.slice bY n.labels.length bZ,.int .i64 n.cpu,.int .i64 n.mem,.int .i64 n.slots,.slice wP n.aT.length wQ] 42)) ?_;try simp only [Act.put,pz]
   clear hK K;have hbB:=ak hb5 (.cells #[.string n.name,.slice bY n.labels.length bZ,.int .i64 n.cpu,.int .i64 n.mem,.int .i64 n.slots,.slice wP n.aT.length wQ] 42);refine bP 8 J' U' J' (fun K hK=>?_);refine qQ elIHost _ _ J' (w5.alloc (.cells #[.string n.name,.slice bY n.labels.length bZ,.int .i64 n.cpu,.int .i64 n.mem,.int .i64 n.slots,.slice wP n.aT.length wQ] 42)) wn.heap.size v5 _ _ (mG hown5 (ak (aj _) _)) J' ⟨w5.heap.size,0,none⟩ 1 1 [.string n.name,.slice bY n.labels.length bZ,.int .i64 n.cpu,.int .i64 n.mem,.int .i64 n.slots,.slice wP n.aT.length wQ] J' J' (DI w5 42 [.string n.name,.slice bY n.labels.length bZ,.int .i64 n.cpu,.int .i64 n.mem,.int .i64 n.slots,.slice wP n.aT.length wQ] w5.heap.size rfl) HN1.out O' O' auJ ?_;intro v7 w7 nK Ua ab7;rw [show 0+k = k by omega,List.nil_append] at nK;obtain ⟨g9,p9,hv7,hgb,hgp,hgl⟩:=wW nK O';subst hv7;have hb7:Below wn.heap.size wn w7:=Below.grown (hbB) Ua auJ (fun q hq=>(hown5.lt q hq).1);exact Zaen
  ·go_simp;refine hK _ _ (ak Qz (.cells #[.string n.name,.slice bY n.labels.length bZ,.int .i64 n.cpu,.int .i64 n.mem,.int .i64 n.slots,.slice wP n.aT.length wQ] 42)) ?_;try simp only [Act.put,pz]
   clear hK K;have hbB:=ak Qz (.cells #[.string n.name,.slice bY n.labels.length bZ,.int .i64 n.cpu,.int .i64 n.mem,.int .i64 n.slots,.slice wP n.aT.length wQ] 42);replace hrA:=mG hrA (ak (aj _) (.cells #[.string n.name,.slice bY n.labels.length bZ,.int .i64 n.cpu,.int .i64 n.mem,.int .i64 n.slots,.slice wP n.aT.length wQ] 42));refine bP 5 J' U' J' (fun K hK=>?_);refine qQ elIHost _ _ J' ((wn.drew.alloc (.cells #[] 42)).alloc (.cells #[.string n.name,.slice bY n.labels.length bZ,.int .i64 n.cpu,.int .i64 n.mem,.int .i64 n.slots,.slice wP n.aT.length wQ] 42)) wn.heap.size _ 0 [] hrA J' ⟨g,0,none⟩ k bV ((ds.take (k * 6))) J' (by rw [List.length_take,hdl];omega) (fun q u hu=>(hbB.cell (p:=(⟨g,0,none⟩:Addr).add q) auX).trans (HNC.out q u hu)) (fun u hu=>HONE.out u (List.mem_of_mem_take hu)) O' O' auJ ?_;intro v5 w5 hown5 hg5 aaQ;have hb5:Below wn.heap.size wn w5:=Below.grown (hbB) hg5 auJ (fun q hq=>(hrA.lt q hq).1);refine hK _ _ hb5 ?_;try simp only [Act.put,pz]
   clear hK K;refine bP 8 J' U' J' (fun K hK=>?_);refine qQ elIHost _ _ J' w5 wn.heap.size v5 _ _ hown5 J' ⟨wn.heap.size+1,0,none⟩ 1 1 [.string n.name,.slice bY n.labels.length bZ,.int .i64 n.cpu,.int .i64 n.mem,.int .i64 n.slots,.slice wP n.aT.length wQ] J' J' (fun q u hu=>(World.cell?_of_block awP).trans ((DI (wn.drew.alloc (.cells #[] 42)) 42 [.string n.name,.slice bY n.labels.length bZ,.int .i64 n.cpu,.int .i64 n.mem,.int .i64 n.slots,.slice wP n.aT.length wQ] (wn.heap.size+1) S') q u hu)) HN1.out O' O' auK ?_;exact Zaf1
 ·go_simp;refine hK _ _ (ak hbx (.cells #[.string n.name,.slice bY n.labels.length bZ,.int .i64 n.cpu,.int .i64 n.mem,.int .i64 n.slots,.slice wP n.aT.length wQ] 42)) ?_;try simp only [Act.put,pz]
  clear hK K;have hbB:=ak hbx (.cells #[.string n.name,.slice bY n.labels.length bZ,.int .i64 n.cpu,.int .i64 n.mem,.int .i64 n.slots,.slice wP n.aT.length wQ] 42);refine bP 0 J' U' J' (fun K hK=>?_);go_simp;refine hK _ _ (ak hbB (.cells #[] 42)) ?_;try simp only [Act.put,pz]
  clear hK K;have Qz:=ak hbB (.cells #[] 42);have hrA:=vP (D9 (wn.drew.alloc (.cells #[.string n.name,.slice bY n.labels.length bZ,.int .i64 n.cpu,.int .i64 n.mem,.int .i64 n.slots,.slice wP n.aT.length wQ] 42)) 42 6 (wn.heap.size+1) S') (B':=wn.heap.size) O';refine bP 5 J' U' J' (fun K hK=>?_);refine qQ elIHost _ _ J' ((wn.drew.alloc (.cells #[.string n.name,.slice bY n.labels.length bZ,.int .i64 n.cpu,.int .i64 n.mem,.int .i64 n.slots,.slice wP n.aT.length wQ] 42)).alloc (.cells #[] 42)) wn.heap.size _ 0 [] hrA J' ⟨g,0,none⟩ k bV ((ds.take (k * 6))) J' (by rw [List.length_take,hdl];omega) (fun q u hu=>(Qz.cell (p:=(⟨g,0,none⟩:Addr).add q) auX).trans (HNC.out q u hu)) (fun u hu=>HONE.out u (List.mem_of_mem_take hu)) O' O' auI ?_;intro v5 w5 hown5 hg5 aaQ;have hb5:Below wn.heap.size wn w5:=Below.grown (Qz) hg5 auI (fun q hq=>(hrA.lt q hq).1);refine hK _ _ hb5 ?_;try simp only [Act.put,pz]
  clear hK K;refine bP 8 J' U' J' (fun K hK=>?_);refine qQ elIHost _ _ J' w5 wn.heap.size v5 _ _ hown5 J' ⟨wn.heap.size,0,none⟩ 1 1 [.string n.name,.slice bY n.labels.length bZ,.int .i64 n.cpu,.int .i64 n.mem,.int .i64 n.slots,.slice wP n.aT.length wQ] J' J' (fun q u hu=>(World.cell?_of_block awQ).trans ((DI wn.drew 42 [.string n.name,.slice bY n.labels.length bZ,.int .i64 n.cpu,.int .i64 n.mem,.int .i64 n.slots,.slice wP n.aT.length wQ] wn.heap.size rfl) q u hu)) HN1.out O' O' auK ?_
  exact Zaf1):P:=h
theorem Zaai {P:Prop} (h:P:=by
 intro HK;have hbx:Below wn.heap.size wn wn.drew:=aA (aj _)
 refine aX 1 _ J' U' (fun _ _ d _ _ h=>by cases d <;> exact h) hbx (Or.inl ⟨rfl,fun wq hq=>by
  have hcq:=(aB hq).1;go_simp
  try rfl⟩) ?_
 try simp only [Act.put,pz]
 refine aX 2 _ J' U' (fun _ _ d _ _ h=>by cases d <;> exact h) hbx (Or.inl ⟨rfl,fun wq hq=>by
  have hcq:=(aB hq).1;go_simp
  try rfl⟩) ?_
 try simp only [Act.put,pz]
 refine aX 3 _ J' U' (fun _ _ d _ _ h=>by cases d <;> exact h) hbx (Or.inl ⟨rfl,fun wq hq=>by
  have hcq:=(aB hq).1;go_simp
  try rfl⟩) ?_
 try simp only [Act.put,pz]
 refine aX 5 _ J' U' (fun _ _ d _ _ h=>by cases d <;> exact h) hbx (Or.inl ⟨rfl,fun wq hq=>by
  have hcq:=(aB hq).1;go_simp
  try rfl⟩) ?_
 try simp only [Act.put,pz]
 refine D7 0 6 J' J' U' J' J' (fun K hK=>?_) (fun K hK=>?_)
 ·go_simp;refine hK _ _ (ak hbx (.cells #[] 110)) ?_;try simp only [Act.put,pz]
  clear hK K;have Qz:=ak hbx (.cells #[] 110);have hrA:=D9 wn.drew 110 3 wn.heap.size rfl;refine D7 4 6 J' J' U' J' J' (fun K hK=>?_) (fun K hK=>?_)
  ·refine qQ elSNeed _ _ J' (wn.drew.alloc (.cells #[] 110)) wn.heap.size _ 0 [] hrA J' ⟨g,0,none⟩ jj cap ((ds.take (jj * 3))) J' (by rw [List.length_take,HDL.out];omega) (fun q u hu=>(Qz.cell (p:=(⟨g,0,none⟩:Addr).add q) auX).trans (HNC.out q u hu)) (fun u hu=>HONE.out u (List.mem_of_mem_take hu)) O' O' auI ?_;intro v5 w5 hown5 hg5 aaQ;have hb5:Below wn.heap.size wn w5:=Below.grown (Qz) hg5 auI (fun q hq=>(hrA.lt q hq).1);refine hK _ _ hb5 ?_;try simp only [Act.put,pz]
   clear hK K;refine bP 6 J' U' J' (fun K hK=>?_);go_simp;refine hK _ _ (ak hb5 (.cells #[.string y.key,.int .i64 y.op,.slice Ay y.values.length cy] 110)) ?_;try simp only [Act.put,pz]
   clear hK K;have hbB:=ak hb5 (.cells #[.string y.key,.int .i64 y.op,.slice Ay y.values.length cy] 110);refine bP 7 J' U' J' (fun K hK=>?_);refine qQ elSNeed _ _ J' (w5.alloc (.cells #[.string y.key,.int .i64 y.op,.slice Ay y.values.length cy] 110)) wn.heap.size v5 _ _ (mG hown5 (ak (aj _) _)) J' ⟨w5.heap.size,0,none⟩ 1 1 [.string y.key,.int .i64 y.op,.slice Ay y.values.length cy] J' J' (DI w5 110 [.string y.key,.int .i64 y.op,.slice Ay y.values.length cy] w5.heap.size rfl) HN1.out O' O' auJ ?_;intro v7 w7 nK Ua ab7;rw [show 0+jj = jj by omega,List.nil_append] at nK;obtain ⟨g9,p9,hv7,hgb,hgp,hgl⟩:=wW nK O';subst hv7;have hb7:Below wn.heap.size wn w7:=Below.grown (hbB) Ua auJ (fun q hq=>(hown5.lt q hq).1);exact Zaex
  ·go_simp;refine hK _ _ (ak Qz (.cells #[.string y.key,.int .i64 y.op,.slice Ay y.values.length cy] 110)) ?_;try simp only [Act.put,pz]
   clear hK K;have hbB:=ak Qz (.cells #[.string y.key,.int .i64 y.op,.slice Ay y.values.length cy] 110);replace hrA:=mG hrA (ak (aj _) (.cells #[.string y.key,.int .i64 y.op,.slice Ay y.values.length cy] 110));refine bP 4 J' U' J' (fun K hK=>?_);refine qQ elSNeed _ _ J' ((wn.drew.alloc (.cells #[] 110)).alloc (.cells #[.string y.key,.int .i64 y.op,.slice Ay y.values.length cy] 110)) wn.heap.size _ 0 [] hrA J' ⟨g,0,none⟩ jj cap ((ds.take (jj * 3))) J' (by rw [List.length_take,HDL.out];omega) (fun q u hu=>(hbB.cell (p:=(⟨g,0,none⟩:Addr).add q) auX).trans (HNC.out q u hu)) (fun u hu=>HONE.out u (List.mem_of_mem_take hu)) O' O' auJ ?_;intro v5 w5 hown5 hg5 aaQ;have hb5:Below wn.heap.size wn w5:=Below.grown (hbB) hg5 auJ (fun q hq=>(hrA.lt q hq).1);refine hK _ _ hb5 ?_;try simp only [Act.put,pz]
   clear hK K;refine bP 7 J' U' J' (fun K hK=>?_);refine qQ elSNeed _ _ J' w5 wn.heap.size v5 _ _ hown5 J' ⟨wn.heap.size+1,0,none⟩ 1 1 [.string y.key,.int .i64 y.op,.slice Ay y.values.length cy] J' J' (fun q u hu=>(World.cell?_of_block awP).trans ((DI (wn.drew.alloc (.cells #[] 110)) 110 [.string y.key,.int .i64 y.op,.slice Ay y.values.length cy] (wn.heap.size+1) S') q u hu)) HN1.out O' O' auK ?_;exact Zafz
 ·go_simp;refine hK _ _ (ak hbx (.cells #[.string y.key,.int .i64 y.op,.slice Ay y.values.length cy] 110)) ?_;try simp only [Act.put,pz]
  clear hK K;have hbB:=ak hbx (.cells #[.string y.key,.int .i64 y.op,.slice Ay y.values.length cy] 110);refine bP 0 J' U' J' (fun K hK=>?_);go_simp;refine hK _ _ (ak hbB (.cells #[] 110)) ?_;try simp only [Act.put,pz]
  clear hK K;have Qz:=ak hbB (.cells #[] 110);have hrA:=vP (D9 (wn.drew.alloc (.cells #[.string y.key,.int .i64 y.op,.slice Ay y.values.length cy] 110)) 110 3 (wn.heap.size+1) S') (B':=wn.heap.size) O';refine bP 4 J' U' J' (fun K hK=>?_);refine qQ elSNeed _ _ J' ((wn.drew.alloc (.cells #[.string y.key,.int .i64 y.op,.slice Ay y.values.length cy] 110)).alloc (.cells #[] 110)) wn.heap.size _ 0 [] hrA J' ⟨g,0,none⟩ jj cap ((ds.take (jj * 3))) J' (by rw [List.length_take,HDL.out];omega) (fun q u hu=>(Qz.cell (p:=(⟨g,0,none⟩:Addr).add q) auX).trans (HNC.out q u hu)) (fun u hu=>HONE.out u (List.mem_of_mem_take hu)) O' O' auI ?_;intro v5 w5 hown5 hg5 aaQ;have hb5:Below wn.heap.size wn w5:=Below.grown (Qz) hg5 auI (fun q hq=>(hrA.lt q hq).1);refine hK _ _ hb5 ?_;try simp only [Act.put,pz]
  clear hK K;refine bP 7 J' U' J' (fun K hK=>?_);refine qQ elSNeed _ _ J' w5 wn.heap.size v5 _ _ hown5 J' ⟨wn.heap.size,0,none⟩ 1 1 [.string y.key,.int .i64 y.op,.slice Ay y.values.length cy] J' J' (fun q u hu=>(World.cell?_of_block awQ).trans ((DI wn.drew 110 [.string y.key,.int .i64 y.op,.slice Ay y.values.length cy] wn.heap.size rfl) q u hu)) HN1.out O' O' auK ?_
  exact Zafz):P:=h
theorem Zaaj {P:Prop} (h:P:=by
 exact Zaey):P:=h
theorem Zaak {P:Prop} (h:P:=by
 go_wp2_with fail
 clear q0 q1 q2 q3 q4 q5 q6 q7 q8;refine aF _ U' U' (aj _) ?_
 repeat (first
  | (apply aG
     case hw=>rfl
     simp only [Act.put,pz])
  | (apply aH
     case hw=>rfl
     case h =>exact Zaep
     simp only [Act.put,pz]))
 exact Zaeu):P:=h
theorem Zaal {P:Prop} (h:P:=by
 have HF:=I' (dW hlt hp);clear hp;go_wp2_with (go_at_call 12;refine (iQ x _ _ x.hosts[0].name _ (aJ h atS) Ji.out).mono ?_;rw [HU.out];rintro e w5 ⟨rfl,hb5⟩;obtain ⟨hc5,hf5⟩:=ay hb5;have Es:w.heap.size < w5.heap.size:=(sq hb5.size);have IV:b < w5.heap.size:=(sq hb5.size);(try have hx5:wr.heap.size < w5.heap.size:=(sq hb5.size)))
 clear q0 q1 q2 q3 q4 q5;refine aF _ U' U' (aj _) ?_
 repeat (first
  | (apply aG
     case hw=>rfl
     simp only [Act.put,pz])
  | (apply aH
     case hw=>rfl
     case h =>exact Zaez
     simp only [Act.put,pz]))
 exact Zaev):P:=h
theorem Zaam {P:Prop} (h:P:=by
 exact Zaeu):P:=h
theorem Zaan {P:Prop} (h:P:=by
 try simp only [Bool.and_false,Bool.and_true,Bool.false_and,Bool.and_self] at hp
 have HF:=I' (dW hlt hp);clear hp;go_wp2_with fail
 refine aF _ U' U' (aj _) ?_
 repeat (first
  | (apply aG
     case hw=>rfl
     simp only [Act.put,pz])
  | (apply aH
     case hw=>rfl
     case h =>exact Zae5
     simp only [Act.put,pz]))
 refine aN ?_;intro wn hn;replace hn:=hn.out;obtain ⟨hcn,hfn⟩:=ay hn;have hzn:w.heap.size < wn.heap.size:=sq hn.size;have hyn:b' < wn.heap.size:=sq hn.size;try (have hxn:wr.heap.size < wn.heap.size:=sq hn.size)
 go_wp2_with (go_at_call 86;refine (jm x _ _ x.hosts[j+1].name _ (aJ h atS) Ji.out).mono ?_;rw [HU.out];rintro e w5 ⟨rfl,hb5⟩;obtain ⟨hc5,hf5⟩:=ay hb5;have Es:w.heap.size < w5.heap.size:=(sq hb5.size);have IV:b' < w5.heap.size:=(sq hb5.size);(try have hx5:wr.heap.size < w5.heap.size:=(sq hb5.size)))
 go_ret
 exact ⟨by rw [HF.out];rfl,atS⟩):P:=h
theorem Zaao {P:Prop} (h:P:=by
 have HF:=I' (dW hlt hp);clear hp;go_wp2_with fail
 refine aF _ U' U' (aj _) ?_
 repeat (first
  | (apply aG
     case hw=>rfl
     simp only [Act.put,pz])
  | (apply aH
     case hw=>rfl
     case h =>exact Zae6
     simp only [Act.put,pz]))
 refine aN ?_;intro wn hn;replace hn:=hn.out;obtain ⟨hcn,hfn⟩:=ay hn;have hzn:w.heap.size < wn.heap.size:=sq hn.size;have hyn:b < wn.heap.size:=sq hn.size;try (have hxn:wr.heap.size < wn.heap.size:=sq hn.size)
 go_wp2_with (go_at_call 86;refine (jm x _ _ x.hosts[0].name _ (aJ h atS) Ji.out).mono ?_;rw [HU.out];rintro e w5 ⟨rfl,hb5⟩;obtain ⟨hc5,hf5⟩:=ay hb5;have Es:w.heap.size < w5.heap.size:=(sq hb5.size);have IV:b < w5.heap.size:=(sq hb5.size);(try have hx5:wr.heap.size < w5.heap.size:=(sq hb5.size)))
 go_ret
 exact ⟨by rw [HF.out];rfl,atS⟩):P:=h
theorem Zaap {P:Prop} (h:P:=by
 rintro e w1 ⟨ds,G,rfl,hO,hb1⟩;have hR:=hO.rd;obtain ⟨kM,kN,ND,ny,nC,TD,hck,hGr,NG,TF,TG,xI,uD,xJ⟩:=aO hR;subst hck;clear hGr hR;have hz1:=hb1.size;simp at hz1;have XB:oG w1 (w.heap.size+1+1) [.slice none 0 0,.slice none 0 0,.int .i64 0,.int .i64 0,.int .i64 0,.int .i64 0]:=oG.ext (oG.new3 w _ _ [.slice none 0 0,.slice none 0 0,.int .i64 0,.int .i64 0,.int .i64 0,.int .i64 0] 29) hb1;have HO:=I' (hO.mono (B':=w.heap.size+1+1+1) S');have hb2:Below w.heap.size w w1:=ah atT hb1;clear hO hb1 h;try dsimp only
 iterate 8 go_step
 refine wp_storeB 29 _ _ rfl (w.heap.size+1+1) 0 [.slice kM R.hosts.length kN,.slice ny R.au.length nC,.int .i64 R.next,.int .i64 R.weights.pack,.int .i64 R.weights.spread,.int .i64 R.weights.soft] [.slice none 0 0,.slice none 0 0,.int .i64 0,.int .i64 0,.int .i64 0,.int .i64 0] rfl rfl XB S' U' aub ?_;intro w2 YB OB;replace YB:oG w2 (w.heap.size+1+1) [.slice kM R.hosts.length kN,.slice ny R.au.length nC,.int .i64 R.next,.int .i64 R.weights.pack,.int .i64 R.weights.spread,.int .i64 R.weights.soft]:=YB;try dsimp only [Act.put]
 go_wp2;refine bodyPost_ret (v:=.tuple #[.agg #[.slice kM R.hosts.length kN,.slice ny R.au.length nC,.int .i64 R.next,.int .i64 R.weights.pack,.int .i64 R.weights.spread,.int .i64 R.weights.soft],.int .i64 cd]) (results_cellB2 Tryz.results11 _ (w.heap.size+1+1) [.slice kM R.hosts.length kN,.slice ny R.au.length nC,.int .i64 R.next,.int .i64 R.weights.pack,.int .i64 R.weights.spread,.int .i64 R.weights.soft] _ _ rfl rfl YB Tryz.underlying29 rfl U') rfl ?_
 exact Zaff):P:=h
theorem Zaaq {P:Prop} (h:P:=by
 go_wp2_with fail
 clear q0 q1 q2 q3 q4 q5 q6 q7 q8;refine aF _ U' U' (aj _) ?_
 repeat (first
  | (apply aG
     case hw=>rfl
     simp only [Act.put,pz])
  | (apply aH
     case hw=>rfl
     case h =>exact Zaeq
     simp only [Act.put,pz]))
 exact Zaev):P:=h
theorem Zaar {P:Prop} (h:P:=by
 go_wp2_with fail
 refine (gQ x _ _ nm _ (aJ h atS) hlen).mono ?_;rw [HI.out];rintro e w2 ⟨rfl,hb2⟩;obtain ⟨hc2,hf2⟩:=ay hb2;have hz2:w.heap.size < w2.heap.size:=(sq hb2.size);have hy2:w.heap.size+1 < w2.heap.size:=(sq hb2.size);have hB2:Below w.heap.size w w2:=atS;go_wp2_with fail
 refine (jm x _ _ nm _ (aJ h atS) vk).mono ?_;rw [HU.out];rintro e w3 ⟨rfl,hb3⟩;obtain ⟨hc3,hf3⟩:=ay hb3;have hz3:w.heap.size < w3.heap.size:=(sq hb3.size);have hy3:w.heap.size+1 < w3.heap.size:=(sq hb3.size);have hB3:Below w.heap.size w w3:=ah hB2 hb3
 exact Zaf3):P:=h
theorem Zaas {P:Prop} (h:P:=by
 exact Zaep):P:=h
theorem Zaat {P:Prop} (h:P:=by
 have HS:=I' hS;clear hS;have H1:=I' he1;clear he1;have H2:=I' he2;clear he2;go_wp2_with fail
 refine (aa1.out _ atS).mono ?_;rw [HS.out];rintro e w4 ⟨rfl,hb4⟩;obtain ⟨hc4,hf4⟩:=ay hb4;have Wy:w.heap.size < w4.heap.size:=(sq hb4.size);have hy4:w.heap.size+1 < w4.heap.size:=(sq hb4.size);have hx4:w3.heap.size < w4.heap.size:=(sq hb4.size);go_wp2_with fail
 refine (HUN.out _ atS).mono ?_;rintro e w5 ⟨rfl,hb5⟩;obtain ⟨hc5,hf5⟩:=ay hb5;have Es:w.heap.size < w5.heap.size:=(sq hb5.size);have IV:w.heap.size+1 < w5.heap.size:=(sq hb5.size);have hx5:w3.heap.size < w5.heap.size:=(sq hb5.size);go_wp2_with fail
 refine (oQ a p.cpu _ ha kQ).mono ?_;rw [H1.out];rintro e w6 ⟨rfl,hb6⟩;obtain ⟨hc6,Xe⟩:=ay hb6;have hz6:w.heap.size < w6.heap.size:=(sq hb6.size);have hy6:w.heap.size+1 < w6.heap.size:=(sq hb6.size);have hx6:w3.heap.size < w6.heap.size:=(sq hb6.size);go_wp2_with fail
 refine (oQ b p.mem _ hb lg).mono ?_;rw [H2.out];rintro e w7 ⟨rfl,hb7⟩;obtain ⟨hc7,hf7⟩:=ay hb7;have hz7:w.heap.size < w7.heap.size:=(sq hb7.size);have hy7:w.heap.size+1 < w7.heap.size:=(sq hb7.size);have hx7:w3.heap.size < w7.heap.size:=(sq hb7.size);go_wp2;go_ret
 exact ⟨by rw [HF.out];first | rfl | simp,atS⟩):P:=h
theorem Zaau {P:Prop} (h:P:=by
 exact Zaev):P:=h
theorem Zaav {P:Prop} (h:P:=by
 have HN:=I' (gq hall.out hp);clear hp;go_wp2_with fail
 skip
 refine aF _ U' U' (aj _) ?_
 repeat (first
  | (apply aG
     case hw=>rfl
     simp only [Act.put,pz])
  | (apply aH
     case hw=>rfl
     case h =>exact Zaes
     simp only [Act.put,pz]))
 refine aN ?_;intro wn hn;replace hn:=hn.out;obtain ⟨hcn,hfn⟩:=ay hn;have hzn:w.heap.size < wn.heap.size:=sq hn.size;have hyn:b < wn.heap.size:=sq hn.size;try (have hxn:wr.heap.size < wn.heap.size:=sq hn.size)
 have hWn:Below wr.heap.size wr wn:=atS;have hs8:wn.cell? ⟨wr.heap.size,8,none⟩ = some (.int .i64 x.au[0].seq):=by rw [hcn _ _ S',cell_of_row _ _ _ _ _ _ (heap_alloc_new wr _)];rfl
 have anN:(0:Nat) < 12:=by omega
 obtain ⟨wo,hwo⟩:∃wo,wo = wr:=⟨_,rfl⟩;subst hwo;go_wp2_with fail
 go_loopw [5] (fun i2 wi=>∃q:Nat,q≤0∧i2 = .int .i64 q∧Hid (∀u∈x.au.take q,(u.seq == x.au[0].seq) = false)∧Below wn.heap.size wn wi) (fun i2 _=>0 - (intOf i2).toNat)
 case atStart=>exact ⟨0,Nat.zero_le _,rfl,by show ∀_,_;simp,aj _⟩
 case round =>
  obtain ⟨q,hq,rfl,HQ,hbi⟩:=hrel;have Fp:Below wo.heap.size wo wr:=ah hWn hbi;have hBi:Below w.heap.size w wr:=ah hBr Fp;have ci0:=(ay Fp).1 _ 0 tX |>.trans c0;have ci1:=(ay Fp).1 _ 1 tX |>.trans c1;have ci2:=(ay Fp).1 _ 2 tX |>.trans c2;have ci3:=(ay Fp).1 _ 3 tX |>.trans c3;have ci4:=(ay Fp).1 _ 4 tX |>.trans c4;have ci5:=(ay Fp).1 _ 5 tX |>.trans c5;replace hs8:=((ay hbi).1 _ _ O').trans hs8;have hzi:w.heap.size < wr.heap.size:=by have:=Fp.size;omega
  have hxi:wo.heap.size < wr.heap.size:=by have:=hbi.size;omega
  by_cases hqk:q < 0
  ·exact absurd hqk O'
  ·obtain rfl:q = 0:=by omega
   have hsn:seenIn (x.au.take (0)) x.au[0].seq = false:=by unfold seenIn;rw [List.any_eq_false];intro u hu;have:=HQ.out u hu;simp [this]
   have Gn:=I' (gq hfresh.out (show DN x.au (0) = true by rw [sG hlt,hsn];rfl));clear hsn;go_wp2
   exact ⟨⟨0+1,O',N',HN.out,Gn.out,ah hbl Fp⟩,by simp [intOf];omega⟩):P:=h
theorem Zaaw {P:Prop} (h:P:=by
 rw [HK.out];rintro e w2 ⟨rfl,hb2⟩;obtain ⟨hc2,hf2⟩:=ay hb2;have hz2:w.heap.size < w2.heap.size:=by have:=hb2.size;simp at this;omega
 have hq1:w2.cell? ⟨w.heap.size,1,none⟩ = some (.int .i64 x.op):=by rw [hc2 _ _ S',cell_of_row _ _ _ _ _ _ (heap_alloc_new w _)];rfl
 have hq2:w2.cell? ⟨w.heap.size,2,none⟩ = some (.slice jy x.values.length ji):=by rw [hc2 _ _ S',cell_of_row _ _ _ _ _ _ (heap_alloc_new w _)];rfl
 have hB2:Below w.heap.size w w2:=atS;clear hc2 hf2;go_wp2;go_ret
 exact ⟨by rw [HF.out];first | rfl | simp_all,hB2⟩):P:=h
theorem Zaax {P:Prop} (h:P:=by
 exact Zaeq):P:=h
theorem Zaay {P:Prop} (h:P:=by
 have rr:=HS.out.box.lt;go_wp2_with fail
 refine (anU x _ _ v3 (rd_extN HX.out HS.out.below) hl1 hl2 hl3 hv).mono ?_;rintro e w8 ⟨ds8,G8,rfl,sV,hb8⟩;have T8:=HS.out.ext hb8;have SY:=sV;obtain ⟨Alabels9,clabels9,Flabels9,Aneeds9,cneeds9,Fneeds9,Atolerances9,ctolerances9,Ftolerances9,hck9,hF9,hname9,hlabels9,hcpu9,hmem9,hrank9,hneeds9,htolerances9⟩:=dL sV.rd;subst hck9;clear hF9 sV;have r0:=T8.rb.cell (i:=0) (u:=.string ⟨#[]⟩) rfl;have r1:=T8.rb.cell (i:=1) (u:=.slice none 0 0) rfl;have r2:=T8.rb.cell (i:=2) (u:=.int .i64 0) rfl;have r3:=T8.rb.cell (i:=3) (u:=.int .i64 0) rfl;have r4:=T8.rb.cell (i:=4) (u:=.int .i64 0) rfl;have r5:=T8.rb.cell (i:=5) (u:=.slice none 0 0) rfl;have r6:=T8.rb.cell (i:=6) (u:=.slice none 0 0) rfl;have rf:=T8.rb.fz;have rl:=T8.rb.lt;have HO9:=I' SY;have HT8:=I' T8;have hzw:w.heap.size+1 < v3.heap.size:=HS.out.rb.lt;clear SY T8 hb8;go_wp2_with fail
 try dsimp only
 iterate 60 (first | go_step | skip)
 refine bodyPost_ret (v:=.tuple #[.agg #[.string x.name,.slice Alabels9 x.labels.length clabels9,.int .i64 x.cpu,.int .i64 x.mem,.int .i64 x.rank,.slice Aneeds9 x.needs.length cneeds9,.slice Atolerances9 x.tolerances.length ctolerances9],.bool false]) (by simp [results,Tryz.results22,go_sem, *]) rfl ⟨[.string x.name,.slice Alabels9 x.labels.length clabels9,.int .i64 x.cpu,.int .i64 x.mem,.int .i64 x.rank,.slice Aneeds9 x.needs.length cneeds9,.slice Atolerances9 x.tolerances.length ctolerances9],G8,by rw [HRN.out];try rfl,?_,?_⟩
 ·rw [HRN.out];refine Own.mono (B:=v3.heap.size) ?_ O';exact Zae0
 ·exact Zafg):P:=h
theorem Zaaz {P:Prop} (h:P:=by
 exact Zaer):P:=h
theorem Zaa0 {P:Prop} (h:P:=by
 exact Zaf3):P:=h
theorem Zaa1 {P:Prop} (h:P:=by
 exact Zae5):P:=h
theorem Zaa2 {P:Prop} (h:P:=by
 have HC:=I' hc;have HN:=I' hn;clear hc hn;go_wp2_with fail
 refine (l22Copy_room x _ _ _ (aZ h atT) HW.out).mono ?_;rintro e w1 ⟨cs1,G1,rfl,jX,hb1,hRM⟩;obtain ⟨hc1,hf1⟩:=ay hb1;have hz1_0:w.heap.size < w1.heap.size:=sq hb1.size;have hz1_1:w.heap.size+1 < w1.heap.size:=sq hb1.size;have aqV:w.heap.size+1+1 < w1.heap.size:=sq hb1.size;have hR1:=jX.rd;obtain ⟨dG,bV,xq,dS,dJ,Bz,hck,hG1,oO,tq,wI,iV,gI,iW⟩:=aO hR1;subst hck;clear hG1 hR1;go_wp2_with fail
 refine (PodNormal_spec u _ _ _ (aZ h' atT) HU.out).mono ?_;rw [HN.out];rintro e w2 ⟨cs2,G2,rfl,hO2,hb2⟩;obtain ⟨hc2,hf2⟩:=ay hb2;have hz2_0:w.heap.size < w2.heap.size:=sq hb2.size;have hz2_1:w.heap.size+1 < w2.heap.size:=sq hb2.size;have hz2_2:w.heap.size+1+1 < w2.heap.size:=sq hb2.size;have aqX:w1.heap.size < w2.heap.size:=sq hb2.size;have hR2:=hO2.rd;obtain ⟨bY,bZ,iq,eU,eX,jV,bg,bn,dK,hck,hG2,jW,dA,kQ,lg,lG,iO,bK⟩:=dL hR2;subst hck;clear hG2 hR2;go_wp2_with fail
 refine (qM x _ _ _ (aZ h atT) HW.out).mono ?_;rw [HC.out];rintro e w3 ⟨rfl,hb3⟩;obtain ⟨hc3,hf3⟩:=ay hb3;have hz3_0:w.heap.size < w3.heap.size:=sq hb3.size;have hz3_1:w.heap.size+1 < w3.heap.size:=sq hb3.size;have hz3_2:w.heap.size+1+1 < w3.heap.size:=sq hb3.size;have hz3_3:w1.heap.size < w3.heap.size:=sq hb3.size;have hz3_4:w2.heap.size < w3.heap.size:=sq hb3.size;have HI:=I' hk0;clear hk0;go_wp2_with fail
 refine (aaj x _ _ n.name _ (aZ h atT) Ji.out).mono ?_;rw [HI.out];rintro e w4 ⟨rfl,hb4⟩;obtain ⟨hc4,hf4⟩:=ay hb4;have hz4_0:w.heap.size < w4.heap.size:=sq hb4.size;have hz4_1:w.heap.size+1 < w4.heap.size:=sq hb4.size;have hz4_2:w.heap.size+1+1 < w4.heap.size:=sq hb4.size;have hz4_3:w1.heap.size < w4.heap.size:=sq hb4.size;have hz4_4:w2.heap.size < w4.heap.size:=sq hb4.size;have HO9:Hid (Own w4 (w.heap.size+1+1+1) x [.slice dG x.hosts.length bV,.slice dS x.au.length dJ,.int .i64 x.next,.int .i64 x.weights.pack,.int .i64 x.weights.spread,.int .i64 x.weights.soft] G1):=I' ((((((jX.mono S').alloc _).ext hb2).alloc _).ext hb3).ext hb4);clear jX hO2 hRM;go_wp2_with fail
 try dsimp only
 iterate 60 (first | go_step | skip)
 refine bodyPost_ret (v:=.tuple #[.agg #[.slice dG x.hosts.length bV,.slice dS x.au.length dJ,.int .i64 x.next,.int .i64 x.weights.pack,.int .i64 x.weights.spread,.int .i64 x.weights.soft],.int .i64 4]) (by simp [results,Tryz.results31,go_sem, *]) rfl ?_
 exact Zaet):P:=h
theorem Zaa3 {P:Prop} (h:P:=by
 exact Zaes):P:=h
theorem Zaa4 {P:Prop} (h:P:=by
 have HC:=I' hc;have HN:=I' hn;clear hc hn;go_wp2_with fail
 refine (l22Copy_room x _ _ _ (aZ h atT) HW.out).mono ?_;rintro e w1 ⟨cs1,G1,rfl,jX,hb1,hRM⟩;obtain ⟨hc1,hf1⟩:=ay hb1;have hz1_0:w.heap.size < w1.heap.size:=sq hb1.size;have hz1_1:w.heap.size+1 < w1.heap.size:=sq hb1.size;have aqV:w.heap.size+1+1 < w1.heap.size:=sq hb1.size;have hR1:=jX.rd;obtain ⟨dG,bV,xq,dS,dJ,Bz,hck,hG1,oO,tq,wI,iV,gI,iW⟩:=aO hR1;subst hck;clear hG1 hR1;go_wp2_with fail
 refine (PodNormal_spec u _ _ _ (aZ h' atT) HU.out).mono ?_;rw [HN.out];rintro e w2 ⟨cs2,G2,rfl,hO2,hb2⟩;obtain ⟨hc2,hf2⟩:=ay hb2;have hz2_0:w.heap.size < w2.heap.size:=sq hb2.size;have hz2_1:w.heap.size+1 < w2.heap.size:=sq hb2.size;have hz2_2:w.heap.size+1+1 < w2.heap.size:=sq hb2.size;have aqX:w1.heap.size < w2.heap.size:=sq hb2.size;have hR2:=hO2.rd;obtain ⟨bY,bZ,iq,eU,eX,jV,bg,bn,dK,hck,hG2,jW,dA,kQ,lg,lG,iO,bK⟩:=dL hR2;subst hck;clear hG2 hR2;go_wp2_with fail
 refine (qM x _ _ _ (aZ h atT) HW.out).mono ?_;rw [HC.out];rintro e w3 ⟨rfl,hb3⟩;obtain ⟨hc3,hf3⟩:=ay hb3;have hz3_0:w.heap.size < w3.heap.size:=sq hb3.size;have hz3_1:w.heap.size+1 < w3.heap.size:=sq hb3.size;have hz3_2:w.heap.size+1+1 < w3.heap.size:=sq hb3.size;have hz3_3:w1.heap.size < w3.heap.size:=sq hb3.size;have hz3_4:w2.heap.size < w3.heap.size:=sq hb3.size;have HO9:Hid (Own w3 (w.heap.size+1+1+1) x [.slice dG x.hosts.length bV,.slice dS x.au.length dJ,.int .i64 x.next,.int .i64 x.weights.pack,.int .i64 x.weights.spread,.int .i64 x.weights.soft] G1):=I' (((((jX.mono S').alloc _).ext hb2).alloc _).ext hb3);clear jX hO2 hRM;go_wp2_with fail
 try dsimp only
 iterate 60 (first | go_step | skip)
 refine bodyPost_ret (v:=.tuple #[.agg #[.slice dG x.hosts.length bV,.slice dS x.au.length dJ,.int .i64 x.next,.int .i64 x.weights.pack,.int .i64 x.weights.spread,.int .i64 x.weights.soft],.int .i64 1]) (by simp [results,Tryz.results31,go_sem, *]) rfl ?_
 exact Zaet):P:=h
theorem Zaa5 {P:Prop} (h:P:=by
 exact Zae6):P:=h
theorem Zaa6 {P:Prop} (h:P:=by
 exact Zaem):P:=h
theorem Zaa7 {P:Prop} (h:P:=by
 have HC:=I' hc;have HN:=I' hn;clear hc hn;go_wp2_with fail
 refine (l22Copy_room x _ _ _ (aZ h atT) HW.out).mono ?_;rintro e w1 ⟨cs1,G1,rfl,jX,hb1,hRM⟩;obtain ⟨hc1,hf1⟩:=ay hb1;have hz1_0:w.heap.size < w1.heap.size:=sq hb1.size;have hz1_1:w.heap.size+1 < w1.heap.size:=sq hb1.size;have aqV:w.heap.size+1+1 < w1.heap.size:=sq hb1.size;have hR1:=jX.rd;obtain ⟨dG,bV,xq,dS,dJ,Bz,hck,hG1,oO,tq,wI,iV,gI,iW⟩:=aO hR1;subst hck;clear hG1 hR1;go_wp2_with fail
 refine (HostNormal_spec u _ _ _ (aZ h' atT) HU.out).mono ?_;rw [HN.out];rintro e w2 ⟨cs2,G2,rfl,hO2,hb2⟩;obtain ⟨hc2,hf2⟩:=ay hb2;have hz2_0:w.heap.size < w2.heap.size:=sq hb2.size;have hz2_1:w.heap.size+1 < w2.heap.size:=sq hb2.size;have hz2_2:w.heap.size+1+1 < w2.heap.size:=sq hb2.size;have aqX:w1.heap.size < w2.heap.size:=sq hb2.size;have hR2:=hO2.rd;obtain ⟨bY,bZ,iq,wP,wQ,Qe,hck,hG2,jW,dA,kQ,lg,Nh,Bd⟩:=iy hR2;subst hck;clear hG2 hR2;go_wp2_with fail
 refine (qM x _ _ _ (aZ h atT) HW.out).mono ?_;rw [HC.out];rintro e w3 ⟨rfl,hb3⟩;obtain ⟨hc3,hf3⟩:=ay hb3;have hz3_0:w.heap.size < w3.heap.size:=sq hb3.size;have hz3_1:w.heap.size+1 < w3.heap.size:=sq hb3.size;have hz3_2:w.heap.size+1+1 < w3.heap.size:=sq hb3.size;have hz3_3:w1.heap.size < w3.heap.size:=sq hb3.size;have hz3_4:w2.heap.size < w3.heap.size:=sq hb3.size;have HO9:Hid (Own w3 (w.heap.size+1+1+1) x [.slice dG x.hosts.length bV,.slice dS x.au.length dJ,.int .i64 x.next,.int .i64 x.weights.pack,.int .i64 x.weights.spread,.int .i64 x.weights.soft] G1):=I' (((((jX.mono S').alloc _).ext hb2).alloc _).ext hb3);clear jX hO2 hRM;go_wp2_with fail
 try dsimp only
 iterate 60 (first | go_step | skip)
 refine bodyPost_ret (v:=.tuple #[.agg #[.slice dG x.hosts.length bV,.slice dS x.au.length dJ,.int .i64 x.next,.int .i64 x.weights.pack,.int .i64 x.weights.spread,.int .i64 x.weights.soft],.int .i64 1]) (by simp [results,Tryz.results104,go_sem, *]) rfl ?_;rw [HF.out];refine ⟨[.slice dG x.hosts.length bV,.slice dS x.au.length dJ,.int .i64 x.next,.int .i64 x.weights.pack,.int .i64 x.weights.spread,.int .i64 x.weights.soft],G1,rfl,?_,?_⟩
 ·try dsimp only
  refine Own.mono (B:=w.heap.size+1+1+1) ?_ O';exact Zae0
 ·exact aui):P:=h
theorem Zaa8 {P:Prop} (h:P:=by
 exact Zaen):P:=h
theorem Zaa9 {P:Prop} (h:P:=by
 go_wp2_with (first | (go_at_call 113;refine (pI a.labels b.labels _ _ _ _ _ _ _ (jr.ext atS) (dA.ext atS)).mono ?_;rw [LH.out];rintro e w1 ⟨rfl,hb1⟩;obtain ⟨hc1,hf1⟩:=ay hb1;have zO:w.heap.size < w1.heap.size:=(sq hb1.size);have CO:w.heap.size+1 < w1.heap.size:=(sq hb1.size)))
 go_ret
 exact ⟨by rw [HF.out];rfl,atS⟩):P:=h
theorem Zaba {P:Prop} (h:P:=by
 have hlen:(insAt k (newP x n) x.au).length = x.au.length+1:=by rw [insAt_len]
 obtain ⟨A9,c9,F9,hv9,SY,hF9⟩:=Own.of_rowI (xs:=insAt k (newP x n) x.au) (by rw [hlen];exact vP HROW8.out (B':=w.heap.size+1+1+1) O') (HOC.out.keep (fun y hy=>HKP.out y (HFI.out y hy).1) O') (fun q hq hm=>by have:=(HROW8.out.lt q hq).1;have:=(HFI.out q hm).1;omega);rw [hlen] at hv9 SY;simp only [Value.slice.injEq,true_and] at hv9;obtain ⟨rfl,rfl⟩:=hv9
 have HOW:=I' (Own.wholeA (HOp.out.keep (fun y hy=>HKP.out y (by have:=HGH.out y hy;omega)) O') SY (fun y hm hy=>by
  rcases hF9 y hy with h9 | h9
  ·exact (HFI.out y h9).2.2 hm
  ·have:=(HROW8.out.lt y h9).1;have:=HGH.out y hm;omega) (show I64 (x.next+1) by unfold I64;omega) iV gI iW)
 have HFG:=I' (show ∀y∈Gh++F9,y≠w1.heap.size from fun y hy=>by
  rcases List.mem_append.1 hy with hy | hy
  ·have:=HGH.out y hy;omega
  ·rcases hF9 y hy with h9 | h9
   ·exact (HFI.out y h9).2.1
   ·have:=(HROW8.out.lt y h9).1;omega)
 have XA:=HB8.out;clear SY hF9;try dsimp only
 iterate 90 (first | go_step | skip)
 refine bodyPost_ret (v:=.tuple #[.agg #[.slice dG x.hosts.length bV,.slice (some ⟨g8,0,none⟩) (x.au.length+1) p8,.int .i64 (x.next+1),.int .i64 x.weights.pack,.int .i64 x.weights.spread,.int .i64 x.weights.soft],.int .i64 0]) (by simp [results,Tryz.results31,go_sem, *]) rfl ?_;rw [HF.out,← HKE.out];first | refine ⟨[.slice dG x.hosts.length bV,.slice (some ⟨g8,0,none⟩) (x.au.length+1) p8,.int .i64 (x.next+1),.int .i64 x.weights.pack,.int .i64 x.weights.spread,.int .i64 x.weights.soft],Gh++F9,rfl,?_,?_⟩ | refine ⟨[.slice dG x.hosts.length bV,.slice (some ⟨g8,0,none⟩) (x.au.length+1) p8,.int .i64 (x.next+1),.int .i64 x.weights.pack,.int .i64 x.weights.spread,.int .i64 x.weights.soft],rfl,⟨Gh++F9,?_⟩,?_⟩
 ·exact Zae3
 ·exact aui):P:=h
theorem Zabb {P:Prop} (h:P:=by
 rw [HF.out]
 first
  | refine ⟨[.slice dG x.hosts.length bV,.slice dS x.au.length dJ,.int .i64 x.next,.int .i64 x.weights.pack,.int .i64 x.weights.spread,.int .i64 x.weights.soft],G1,rfl,?_,?_⟩
  | refine ⟨[.slice dG x.hosts.length bV,.slice dS x.au.length dJ,.int .i64 x.next,.int .i64 x.weights.pack,.int .i64 x.weights.spread,.int .i64 x.weights.soft],rfl,⟨G1,?_⟩,?_⟩
 ·exact Zafm
 ·have hB:=HB.out
  exact (by repeat (first | with_reducible exact hB | with_reducible refine aC ?_ atX _))):P:=h
theorem Zabc {P:Prop} (h:P:=by
 have HF:=I' (show setW x u = (x,1) by unfold setW;rw [hc,hwt];simp);have HC:=I' hc;have Du:=I' hwt;clear hc hwt;go_enter Tryz.func55,Tryz.ntmps55;go_wp2_with fail
 refine (BO x _ _ _ (aZ h atT) HW.out).mono ?_;rintro e w1 ⟨cs1,G1,rfl,jX,hb1⟩;have hR1:=jX.rd;obtain ⟨dG,bV,xq,dS,dJ,Bz,hck,hG1,oO,tq,wI,iV,gI,iW⟩:=aO hR1;subst hck;clear hG1 hR1;obtain ⟨hc1,hf1⟩:=ay hb1;have VQ:w.heap.size < w1.heap.size:=sq hb1.size;have hz1b:w.heap.size+1 < w1.heap.size:=sq hb1.size;have akV:w.heap.size+1+1 < w1.heap.size:=sq hb1.size;have hlt1:=jX.lt;go_wp2_with fail
 refine (qM x _ _ _ (aZ h atT) HW.out).mono ?_;rw [HC.out];rintro e w2 ⟨rfl,hb2⟩;obtain ⟨hc2,hf2⟩:=ay hb2;have VR:w.heap.size < w2.heap.size:=sq hb2.size;have hz2b:w.heap.size+1 < w2.heap.size:=sq hb2.size;have aoy:w.heap.size+1+1 < w2.heap.size:=sq hb2.size;have VT:w1.heap.size < w2.heap.size:=sq hb2.size;have hO2:Own w2 (w.heap.size+1+1+1) x [.slice dG x.hosts.length bV,.slice dS x.au.length dJ,.int .i64 x.next,.int .i64 x.weights.pack,.int .i64 x.weights.spread,.int .i64 x.weights.soft] G1:=((jX.mono S').alloc _).ext hb2
 exact Zael):P:=h
theorem Zabd {P:Prop} (h:P:=by
 have hlen:(insAt k n x.hosts).length = x.hosts.length+1:=by rw [insAt_len]
 obtain ⟨A9,c9,F9,hv9,SY,hF9⟩:=Own.of_rowI (xs:=insAt k n x.hosts) (by rw [hlen];exact vP HROW8.out (B':=w.heap.size+1+1+1) O') (HOC.out.keep (fun y hy=>HKP.out y (HFI.out y hy).1) O') (fun q hq hm=>by have:=(HROW8.out.lt q hq).1;have:=(HFI.out q hm).1;omega);rw [hlen] at hv9 SY;simp only [Value.slice.injEq,true_and] at hv9;obtain ⟨rfl,rfl⟩:=hv9
 have HOW:=I' (Own.wholeA SY (HOp.out.keep (fun y hy=>HKP.out y (by have:=HGP.out y hy;omega)) O') (fun y hy=>by
  rcases hF9 y hy with h9 | h9
  ·exact (HFI.out y h9).2.2
  ·have:=(HROW8.out.lt y h9).1;exact fun hm=>by have:=HGP.out y hm;omega) wI iV gI iW)
 have HFG:=I' (show ∀y∈F9++Gp,y≠w1.heap.size from fun y hy=>by
  rcases List.mem_append.1 hy with hy | hy
  ·rcases hF9 y hy with h9 | h9
   ·exact (HFI.out y h9).2.1
   ·have:=(HROW8.out.lt y h9).1;omega
  ·have:=HGP.out y hy;omega)
 have XA:=HB8.out;clear SY hF9;try dsimp only
 iterate 60 (first | go_step | skip)
 refine bodyPost_ret (v:=.tuple #[.agg #[.slice (some ⟨g8,0,none⟩) (x.hosts.length+1) p8,.slice dS x.au.length dJ,.int .i64 x.next,.int .i64 x.weights.pack,.int .i64 x.weights.spread,.int .i64 x.weights.soft],.int .i64 0]) (by simp [results,Tryz.results104,go_sem, *]) rfl ?_;rw [HF.out,← HKE.out];refine ⟨[.slice (some ⟨g8,0,none⟩) (x.hosts.length+1) p8,.slice dS x.au.length dJ,.int .i64 x.next,.int .i64 x.weights.pack,.int .i64 x.weights.spread,.int .i64 x.weights.soft],F9++Gp,rfl,?_,?_⟩
 ·exact Zae3
 ·exact aui):P:=h
theorem Zabe {P:Prop} (h:P:=by
 rintro e w1 ⟨ds,G,rfl,hO,hb1⟩;have hR:=hO.rd;obtain ⟨kM,kN,ND,ny,nC,TD,hck,hGr,NG,TF,TG,xI,uD,xJ⟩:=aO hR;subst hck;clear hGr hR;have hz1:=hb1.size;simp at hz1;have XB:oG w1 (w.heap.size+1+1) [.slice none 0 0,.slice none 0 0,.int .i64 0,.int .i64 0,.int .i64 0,.int .i64 0]:=oG.ext (oG.new3 w _ _ [.slice none 0 0,.slice none 0 0,.int .i64 0,.int .i64 0,.int .i64 0,.int .i64 0] 29) hb1;have HO:=I' (hO.mono (B':=w.heap.size+1+1+1) S');have hb2:Below w.heap.size w w1:=ah atT hb1;clear hO hb1 h;try dsimp only
 iterate 8 go_step
 refine wp_storeB 29 _ _ rfl (w.heap.size+1+1) 0 [.slice kM R.hosts.length kN,.slice ny R.au.length nC,.int .i64 R.next,.int .i64 R.weights.pack,.int .i64 R.weights.spread,.int .i64 R.weights.soft] [.slice none 0 0,.slice none 0 0,.int .i64 0,.int .i64 0,.int .i64 0,.int .i64 0] rfl rfl XB S' U' aub ?_;intro w2 YB OB;replace YB:oG w2 (w.heap.size+1+1) [.slice kM R.hosts.length kN,.slice ny R.au.length nC,.int .i64 R.next,.int .i64 R.weights.pack,.int .i64 R.weights.spread,.int .i64 R.weights.soft]:=YB;try dsimp only [Act.put]
 go_wp2;refine bodyPost_ret (v:=.tuple #[.agg #[.slice kM R.hosts.length kN,.slice ny R.au.length nC,.int .i64 R.next,.int .i64 R.weights.pack,.int .i64 R.weights.spread,.int .i64 R.weights.soft],.int .i64 cd]) (results_cellB2 Tryz.results50 _ (w.heap.size+1+1) [.slice kM R.hosts.length kN,.slice ny R.au.length nC,.int .i64 R.next,.int .i64 R.weights.pack,.int .i64 R.weights.spread,.int .i64 R.weights.soft] _ _ rfl rfl YB Tryz.underlying29 rfl U') rfl ?_
 exact Zaff):P:=h
theorem Zabf {P:Prop} (h:P:=by
 have rr:=HS.out.box.lt;go_wp2_with fail
 refine (alT x _ _ v2 (rd_extN HX.out HS.out.below) hl1 hl2).mono ?_;rintro e w8 ⟨ds8,G8,rfl,sV,hb8⟩;have T8:=HS.out.ext hb8;have SY:=sV;obtain ⟨Alabels9,clabels9,Flabels9,Ataints9,ctaints9,Ftaints9,hck9,hF9,hname9,hlabels9,hcpu9,hmem9,hslots9,htaints9⟩:=iy sV.rd;subst hck9;clear hF9 sV;have r0:=T8.rb.cell (i:=0) (u:=.string ⟨#[]⟩) rfl;have r1:=T8.rb.cell (i:=1) (u:=.slice none 0 0) rfl;have r2:=T8.rb.cell (i:=2) (u:=.int .i64 0) rfl;have r3:=T8.rb.cell (i:=3) (u:=.int .i64 0) rfl;have r4:=T8.rb.cell (i:=4) (u:=.int .i64 0) rfl;have r5:=T8.rb.cell (i:=5) (u:=.slice none 0 0) rfl;have rf:=T8.rb.fz;have rl:=T8.rb.lt;have HO9:=I' SY;have HT8:=I' T8;have hzw:w.heap.size+1 < v2.heap.size:=HS.out.rb.lt;clear SY T8 hb8;go_wp2_with fail
 try dsimp only
 iterate 60 (first | go_step | skip)
 refine bodyPost_ret (v:=.tuple #[.agg #[.string x.name,.slice Alabels9 x.labels.length clabels9,.int .i64 x.cpu,.int .i64 x.mem,.int .i64 x.slots,.slice Ataints9 x.aT.length ctaints9],.bool false]) (by simp [results,Tryz.results149,go_sem, *]) rfl ⟨[.string x.name,.slice Alabels9 x.labels.length clabels9,.int .i64 x.cpu,.int .i64 x.mem,.int .i64 x.slots,.slice Ataints9 x.aT.length ctaints9],G8,by rw [HRN.out];try rfl,?_,?_⟩
 ·rw [HRN.out];refine Own.mono (B:=v2.heap.size) ?_ O';exact Zae0
 ·exact Zafg):P:=h
theorem Zabg {P:Prop} (h:P:=by
 refine aN ?_;intro wn hn;replace hn:=hn.out;go_wp2;refine ⟨⟨s1++[z],s2,jj+1,I' avz,N',I' awS,I' (fun z' hz=>?_),ah hbr hn⟩,by simp [intOf];omega⟩;rcases List.mem_append.1 hz with hz | hz
 ·exact HN.out z' hz
 ·rw [List.mem_singleton.1 hz];exact HL.out):P:=h
theorem Zabh {P:Prop} (h:P:=by
 have n0:(a.name.toList != b.name.toList) = false:=by rw [bne,e0];rfl
 have LH:=I' e1;clear e1;have n2:(a.cpu != b.cpu) = false:=by rw [bne,e2];rfl
 have n3:(a.mem != b.mem) = false:=by rw [bne,e3];rfl
 have n4:(a.rank != b.rank) = false:=by rw [bne,e4];rfl
 have HE5:=I' e5;clear e5;have HE6:=I' e6;clear e6;go_enter Tryz.func66,Tryz.ntmps66;go_wp2_with (first | (go_at_call 113;refine (pI a.labels b.labels _ _ _ _ _ _ _ (jr.ext atS) (dA.ext atS)).mono ?_;rw [LH.out];rintro e w1 ⟨rfl,hb1⟩;obtain ⟨hc1,hf1⟩:=ay hb1;have zO:w.heap.size < w1.heap.size:=(sq hb1.size);have CO:w.heap.size+1 < w1.heap.size:=(sq hb1.size)) | (go_at_call 114;refine (QD a.needs b.needs _ _ _ _ _ _ _ (Bv.ext atS) (iO.ext atS) HVA.out HVB.out).mono ?_;rw [HE5.out];rintro e w5 ⟨rfl,hb5⟩;obtain ⟨hc5,hf5⟩:=ay hb5;have Sm:w.heap.size < w5.heap.size:=(sq hb5.size);have WW:w.heap.size+1 < w5.heap.size:=(sq hb5.size)) | (go_at_call 115;refine (QE a.tolerances b.tolerances _ _ _ _ _ _ _ (qc.ext atS) (bK.ext atS)).mono ?_;rw [HE6.out];rintro e w6 ⟨rfl,hb6⟩;obtain ⟨hc6,Xe⟩:=ay hb6;have al2:w.heap.size < w6.heap.size:=(sq hb6.size);have hz61:w.heap.size+1 < w6.heap.size:=(sq hb6.size)))
 go_ret
 exact ⟨by rw [HF.out];rfl,atS⟩):P:=h
theorem Zabi {P:Prop} (h:P:=by
 rw [HF.out]
 first
  | refine ⟨[.slice dG x.hosts.length bV,.slice dS x.au.length dJ,.int .i64 x.next,.int .i64 x.weights.pack,.int .i64 x.weights.spread,.int .i64 x.weights.soft],G1,rfl,?_,?_⟩
  | refine ⟨[.slice dG x.hosts.length bV,.slice dS x.au.length dJ,.int .i64 x.next,.int .i64 x.weights.pack,.int .i64 x.weights.spread,.int .i64 x.weights.soft],rfl,⟨G1,?_⟩,?_⟩
 ·try dsimp only
  refine Own.mono (B:=w.heap.size+1+1) ?_ O';have hO:=HO1.out;exact Zafv
 ·have hB:=HB1.out
  exact (by repeat (first | with_reducible exact hB | with_reducible refine aC ?_ atX _ | with_reducible refine ak ?_ _))):P:=h
theorem Zabj {P:Prop} (h:P:=by
 refine aN ?_;intro wn hn;replace hn:=hn.out;obtain ⟨hcn,hfn⟩:=ay hn;have hzn:w.heap.size < wn.heap.size:=sq hn.size;have hyn:b' < wn.heap.size:=sq hn.size;try (have hxn:wr.heap.size < wn.heap.size:=sq hn.size)
 have zq:=((hown.alloc (.cells #[.string x.au[j+1].aS.name,.slice fC x.au[j+1].aS.labels.length fD,.int .i64 x.au[j+1].aS.cpu,.int .i64 x.au[j+1].aS.mem,.int .i64 x.au[j+1].aS.rank,.slice gB x.au[j+1].aS.needs.length gG,.slice bT x.au[j+1].aS.tolerances.length bU,.string x.au[j+1].on,.int .i64 x.au[j+1].seq] 53)).kept (grown_of hn) S')
 go_wp2_with (at_mapUpdate
              refine wpList_mapUpdate_own _ J' _ _ _ 97 J' 3 4 Oy Tryz.underlying97 _ wp.heap.size _ _ J' zq at6 _ _ _ J' J' (Maps.keyOf_int_mk Tryz.underlying3 (WalkArith.wf_i64 Ue)) _ [] (plainElem_bool Tryz.underlying4 true) ?_
              intro w5 hown5 JJ)
 exact ⟨⟨j+1+1,O',N',HN.out,Gn.out,au2,(Below.grown (ah (ak U3 _) hn) JJ au3 (fun k hk=>by cases hk;exact Nat.le_refl _))⟩,by simp [intOf];omega⟩):P:=h
theorem Zabk {P:Prop} (h:P:=by
 go_enter Tryz.func33,Tryz.ntmps33;go_wp2_with fail
 rw [HW0.out]
 go_wp2_with (first
  | (go_at_call 82;refine (kH x.next 1 1000000000 _).mono ?_;rw [Jf.out];rintro e w1 ⟨rfl,hw1⟩;simp only [← hw1];clear hw1 w1)
  | (go_at_call 83;refine (pW x.weights.pack x.weights.spread x.weights.soft _).mono ?_;rw [Du.out];rintro e w2 ⟨rfl,hb2⟩;obtain ⟨hc2,hf2⟩:=ay hb2;have hz2:w.heap.size < w2.heap.size:=(sq hb2.size)))
 go_ret
 exact ⟨by rw [HF.out];rfl,atS⟩):P:=h
theorem Zabl {P:Prop} (h:P:=by
 go_enter Tryz.func16,Tryz.ntmps16;go_wp2_with fail
 rw [HW0.out]
 go_wp2_with (first
  | (go_at_call 62;refine (jc x.next 1 1000000000 _).mono ?_;rw [Jf.out];rintro e w1 ⟨rfl,hw1⟩;simp only [← hw1];clear hw1 w1)
  | (go_at_call 18;refine (pU x.weights.pack x.weights.spread x.weights.soft _).mono ?_;rw [Du.out];rintro e w2 ⟨rfl,hb2⟩;obtain ⟨hc2,hf2⟩:=ay hb2;have hz2:w.heap.size < w2.heap.size:=(sq hb2.size)))
 go_ret
 exact ⟨by rw [HF.out];rfl,atS⟩):P:=h
theorem Zabm {P:Prop} (h:P:=by
 refine aN ?_;intro wn hn;replace hn:=hn.out;obtain ⟨hcn,hfn⟩:=ay hn;have hzn:w.heap.size < wn.heap.size:=sq hn.size;have hyn:b < wn.heap.size:=sq hn.size;try (have hxn:wr.heap.size < wn.heap.size:=sq hn.size)
 have zq:=((hown.alloc (.cells #[.string x.au[0].aS.name,.slice fC x.au[0].aS.labels.length fD,.int .i64 x.au[0].aS.cpu,.int .i64 x.au[0].aS.mem,.int .i64 x.au[0].aS.rank,.slice gB x.au[0].aS.needs.length gG,.slice bT x.au[0].aS.tolerances.length bU,.string x.au[0].on,.int .i64 x.au[0].seq] 53)).kept (grown_of hn) S')
 go_wp2_with (at_mapUpdate
              refine wpList_mapUpdate_own _ J' _ _ _ 97 J' 3 4 Oy Tryz.underlying97 _ wp.heap.size _ _ J' zq at6 _ _ _ J' J' (Maps.keyOf_int_mk Tryz.underlying3 (WalkArith.wf_i64 Ue)) _ [] (plainElem_bool Tryz.underlying4 true) ?_
              intro w5 hown5 JJ)
 exact ⟨⟨0+1,O',N',HN.out,Gn.out,au2,(Below.grown (ah (ak U3 _) hn) JJ au3 (fun k hk=>by cases hk;exact Nat.le_refl _))⟩,by simp [intOf];omega⟩):P:=h
theorem Zabn {P:Prop} (h:P:=by
 rw [HF.out]
 first
  | refine ⟨[.slice dG x.hosts.length bV,.slice dS x.au.length dJ,.int .i64 x.next,.int .i64 x.weights.pack,.int .i64 x.weights.spread,.int .i64 x.weights.soft],G1,rfl,?_,?_⟩
  | refine ⟨[.slice dG x.hosts.length bV,.slice dS x.au.length dJ,.int .i64 x.next,.int .i64 x.weights.pack,.int .i64 x.weights.spread,.int .i64 x.weights.soft],rfl,⟨G1,?_⟩,?_⟩
 ·try dsimp only
  refine Own.mono (B:=w.heap.size+1+1) ?_ O';exact aus
 ·exact aui):P:=h
theorem Zabo {P:Prop} (h:P:=by
 try dsimp only [Act.put]
 iterate 5 go_step
 refine wp_storeB 29 _ _ rfl (w.heap.size+1+1) 0 [.slice kM R.hosts.length kN,.slice ny R.au.length nC,.int .i64 R.next,.int .i64 R.weights.pack,.int .i64 R.weights.spread,.int .i64 R.weights.soft] [.slice none 0 0,.slice none 0 0,.int .i64 0,.int .i64 0,.int .i64 0,.int .i64 0] rfl rfl XB2 S' U' aub ?_;intro w3 ZB OZ;replace ZB:oG w3 (w.heap.size+1+1) [.slice kM R.hosts.length kN,.slice ny R.au.length nC,.int .i64 R.next,.int .i64 R.weights.pack,.int .i64 R.weights.spread,.int .i64 R.weights.soft]:=ZB;try dsimp only [Act.put]
 go_wp2;refine bodyPost_ret (v:=.tuple #[.agg #[.slice kM R.hosts.length kN,.slice ny R.au.length nC,.int .i64 R.next,.int .i64 R.weights.pack,.int .i64 R.weights.spread,.int .i64 R.weights.soft],.int .i64 cd]) (results_cellB2 Tryz.results11 _ (w.heap.size+1+1) [.slice kM R.hosts.length kN,.slice ny R.au.length nC,.int .i64 R.next,.int .i64 R.weights.pack,.int .i64 R.weights.spread,.int .i64 R.weights.soft] _ _ rfl rfl ZB Tryz.underlying29 rfl U') rfl ?_
 exact ⟨[.slice kM R.hosts.length kN,.slice ny R.au.length nC,.int .i64 R.next,.int .i64 R.weights.pack,.int .i64 R.weights.spread,.int .i64 R.weights.soft],G,rfl,(((HO.out.only OB (fun b hb=>by have:=HGL.out b hb;omega))).only OZ (fun b hb=>by have:=HO.out.base b hb;omega)).mono (B':=w.heap.size) O',ext_only (ext_only HB.out OB O') OZ O'⟩):P:=h
theorem Zabp {P:Prop} (h:P:=by
 intro wq hq;have hcq:=(aB hq).1;have lJ:=(aB hq).2;go_simp
 first
  | exact ⟨hq,rfl⟩
  | exact ⟨aQ hq _,rfl⟩
  | (first | (refine (NOK.out _ aut).mono ?_;rintro e w2 ⟨rfl,hb2⟩;exact ⟨rfl,aI hq hb2⟩) | (refine (CMP.out _ aut).mono ?_;rintro e w2 ⟨rfl,hb2⟩;exact ⟨rfl,aI hq hb2⟩))
  | (simp only [↓IntWalk.iteOmega];exact ⟨hq,rfl⟩)):P:=h
theorem Zabq {P:Prop} (h:P:=by
 intro wq hq;have hcq:=(aB hq).1;have lJ:=(aB hq).2;go_simp
 first
  | exact ⟨hq,rfl⟩
  | (refine (Kq x p _ _ _ _ z _ (aJ HHX.out (ah HBR.out hq)) (aJ HHP.out (ah HBR.out hq)) HW.out Uc.out).mono ?_;rintro e wz ⟨rfl,hbz⟩;rw [HMZ.out];exact ⟨rfl,aI hq hbz⟩)
  | (simp only [↓IntWalk.iteOmega];exact ⟨hq,rfl⟩)):P:=h
theorem Zabr {P:Prop} (h:P:=by
 have HF:=I' (show oH nm x p = 3 by rw [HAT.out,if_neg (by simp [hS]),if_neg hu,if_pos hf1]);have HS:=I' hS;clear hS;have H1:=I' he1;clear he1;go_wp2_with fail
 refine (aa1.out _ atS).mono ?_;rw [HS.out];rintro e w4 ⟨rfl,hb4⟩;obtain ⟨hc4,hf4⟩:=ay hb4;have Wy:w.heap.size < w4.heap.size:=(sq hb4.size);have hy4:w.heap.size+1 < w4.heap.size:=(sq hb4.size);have hx4:w3.heap.size < w4.heap.size:=(sq hb4.size);go_wp2_with fail
 refine (HUN.out _ atS).mono ?_;rintro e w5 ⟨rfl,hb5⟩;obtain ⟨hc5,hf5⟩:=ay hb5;have Es:w.heap.size < w5.heap.size:=(sq hb5.size);have IV:w.heap.size+1 < w5.heap.size:=(sq hb5.size);have hx5:w3.heap.size < w5.heap.size:=(sq hb5.size);go_wp2_with fail
 refine (oQ a p.cpu _ ha kQ).mono ?_;rw [H1.out];rintro e w6 ⟨rfl,hb6⟩;obtain ⟨hc6,Xe⟩:=ay hb6;have hz6:w.heap.size < w6.heap.size:=(sq hb6.size);have hy6:w.heap.size+1 < w6.heap.size:=(sq hb6.size);have hx6:w3.heap.size < w6.heap.size:=(sq hb6.size);go_wp2;go_ret
 exact ⟨by rw [HF.out];first | rfl | simp,atS⟩):P:=h
theorem Zabs {P:Prop} (h:P:=by
 exact Zae0):P:=h
theorem Zabt {P:Prop} (h:P:=by
 obtain ⟨u,b⟩:=R;rintro e w5 ⟨A6,c6,G6,rfl,iD,hb6,Jg⟩;have HC5:=I' (HC4.out.ext hb6);have HO5:=I' (HO4.out.ext hb6);have HRM5:=I' (HRM4.out.ext hb6);replace Jg:=I' Jg;have HU5:=I' (HU4.out.thenB hb6 O');replace iD:=I' (iD.mono (B':=w.heap.size) O');have hkr1:(k:Int)+1≤2:=by omega
 exact Zae8):P:=h
theorem Zabu {P:Prop} (h:P:=by
 have hl7:yR.length = 7:=Dat.len kG;have h2:List.take 7 (yR++don) = yR:=by rw [List.take_append_of_le_length O',List.take_of_length_le O']
 have h3:=congrArg (List.take 7) hdc;rw [h2] at h3;rw [← h3] at kG
 exact kG):P:=h
theorem Zabv {P:Prop} (h:P:=by
 have hkp:∀y,y < wn.heap.size→w8.heap[y]? = wn.heap[y]?:=fun y hy=>(hg8.block y O' (fun e=>by have:=(nK.lt y e.symm).1;omega)).trans (hb7.block y hy);have hz8:=hg8.size;obtain ⟨FI,hOI,hFI⟩:=HOCn.out.ins HOYn.out HDJ.out jj (by have:=HSL.out;omega);have hlt8:∀y∈FI,y < wn.heap.size:=fun y hy=>by
  rcases hFI y hy with h9 | h9
  ·exact HOCn.out.lt y h9
  ·exact HOYn.out.lt y h9
 refine ⟨⟨k+1,N+1,g8,p8,_,FI,O',O',N',rfl,I' ?_,I' ?_,I' (vP Le (B':=w.heap.size) HBW.out.size),I' ?_,I' ?_,?_⟩,by simp [intOf];omega⟩
 ·rw [Jf.out,HI.out,insAt_len,HSL.out]
 ·intro j hj hjk2;exact Zaft
 ·rw [Jf.out,HI.out];exact hOI.keep (fun y hy=>hkp y (hlt8 y hy)) O'
 ·exact fun hm=>by have:=hlt8 g8 hm;omega
 ·exact Below.grown (HBW.out.trans (hb7.mono HBW.out.size)) hg8 (by have:=HBW.out.size;omega) (fun q hq=>by have:=(nK.lt q hq).1;have:=HBW.out.size;omega)):P:=h
theorem Zabw {P:Prop} (h:P:=by
 have n0:(a.name.toList != b.name.toList) = false:=by rw [bne,e0];rfl
 have LH:=I' e1;clear e1;have n2:(a.cpu != b.cpu) = false:=by rw [bne,e2];rfl
 have n3:(a.mem != b.mem) = false:=by rw [bne,e3];rfl
 have n4:(a.slots != b.slots) = false:=by rw [bne,e4];rfl
 have HE5:=I' e5;clear e5;go_enter Tryz.func68,Tryz.ntmps68;go_wp2_with (first | (go_at_call 113;refine (pI a.labels b.labels _ _ _ _ _ _ _ (jr.ext atS) (dA.ext atS)).mono ?_;rw [LH.out];rintro e w1 ⟨rfl,hb1⟩;obtain ⟨hc1,hf1⟩:=ay hb1;have zO:w.heap.size < w1.heap.size:=(sq hb1.size);have CO:w.heap.size+1 < w1.heap.size:=(sq hb1.size)) | (go_at_call 116;refine (Yr a.aT b.aT _ _ _ _ _ _ _ (yO.ext atS) (Bd.ext atS)).mono ?_;rw [HE5.out];rintro e w5 ⟨rfl,hb5⟩;obtain ⟨hc5,hf5⟩:=ay hb5;have Sm:w.heap.size < w5.heap.size:=(sq hb5.size);have WW:w.heap.size+1 < w5.heap.size:=(sq hb5.size)))
 go_ret
 exact ⟨by rw [HF.out];rfl,atS⟩):P:=h
theorem Zabx {P:Prop} (h:P:=by
 rcases h0 with ⟨hl,⟨rfl,hn⟩ | ⟨g,cap,cur,rfl,hb,hh,hle,hm,hcs,ht⟩⟩
 ·obtain rfl:xs = []:=List.eq_nil_of_length_eq_zero hn;exact ⟨none,0,[],rfl,⟨Sl.nil w none 0 (Nat.zero_le _),List.nodup_nil,(fun b hb=>by cases hb),(fun b hb=>by cases hb)⟩,(fun b hb=>by cases hb)⟩
 ·have hg:g < w.heap.size:=by
   exact Zafk
  refine ⟨_,cap,g :: F,rfl,⟨⟨_,cap,F,ds,rfl,hle,hm,h.rd,.inr ⟨g,0,rfl,rfl,hg,fun j u hu=>?_⟩⟩,?_,?_,?_⟩,fun y hy=>?_⟩
  ·rw [Nat.zero_add,cell_of_row w g j cur e (0,0) hh];exact Zafh
  ·rw [List.nodup_cons];exact ⟨hne g rfl,h.nodup⟩
  ·intro b hb';rcases List.mem_cons.1 hb' with rfl | hb'
   ·exact hb
   ·exact h.base b hb'
  ·intro b hb';rcases List.mem_cons.1 hb' with rfl | hb'
   ·exact ⟨cur,e,hh⟩
   ·exact h.plain b hb'
  ·rcases List.mem_cons.1 hy with rfl | hy
   ·exact .inr rfl
   ·exact .inl hy):P:=h
theorem Zaby {P:Prop} (h:P:=by
 exact Zae3):P:=h
theorem Zabz {P:Prop} (h:P:=by
 simp only [Value.slice.injEq,true_and] at hv3;obtain ⟨hA3,hc3⟩:=hv3;subst hA3 hc3;have HO3:=I' hO3;clear hO3;go_wp2_with fail
 refine HOK.out.mono ?_;rw [HRR.out];rintro e w4 ⟨rfl,hb4⟩;have HB4:=I' hb4;clear hb4;go_wp2;go_ret2
 exact ⟨A2,c2,G3,by rw [HR.out];try rfl,by rw [HR.out];exact (HO3.out.ext HBL.out).ext HB4.out,HBB.out.trans (HB4.out.mono HBB.out.size),fun hh=>absurd hh (by rw [HR.out];simp)⟩):P:=h
theorem Zab0 {P:Prop} (h:P:=by
 have hkl:k = xs.length:=by omega
 have HK:=I' hkl;clear hkl;go_wp2;go_ret
 have h1:=Heq.out;rw [HK.out,List.take_length,HL.out,List.take_length] at h1
 exact ⟨by rw [h1];rfl,hbl⟩):P:=h
theorem Zab1 {P:Prop} (h:P:=by
 exact Below.grown (ah HBN.out hb7) hg8 awR (fun q hq=>by have:=(nK.lt q hq).1;have:=HBN.out.size;omega)):P:=h
theorem Zab2 {P:Prop} (h:P:=by
 rw [HRR.out];rintro e w4 ⟨rfl,hb4⟩;have HB4:=I' hb4;clear hb4;go_wp2;go_ret2
 exact ⟨some ⟨g,0,none⟩,cap,G4,by rw [HR.out,HSL.out];try rfl,by rw [HR.out];exact HO4.out.ext HB4.out,HBB.out.trans (HB4.out.mono HBB.out.size),fun _=>HRM.out.ext HB4.out⟩):P:=h
theorem Zab3 {P:Prop} (h:P:=by
 go_enter Tryz.func17,Tryz.ntmps17;go_wp2_with (first | (go_at_call 67;refine (Ea a.hosts b.hosts _ _ _ _ _ _ _ (oO.ext atS) (tJ.ext atS) HXH.out HYH.out).mono ?_;rw [HE0.out];rintro e w0 ⟨rfl,hb0⟩;obtain ⟨hc0,hf0⟩:=ay hb0;have ahZ:w.heap.size < w0.heap.size:=(sq hb0.size);have al6:w.heap.size+1 < w0.heap.size:=(sq hb0.size)) | (go_at_call 69;refine (EH a.au b.au _ _ _ _ _ _ _ (tq.ext atS) (yV.ext atS) HXP.out HYP.out).mono ?_;rw [LH.out];rintro e w1 ⟨rfl,hb1⟩;obtain ⟨hc1,hf1⟩:=ay hb1;have zO:w.heap.size < w1.heap.size:=(sq hb1.size);have CO:w.heap.size+1 < w1.heap.size:=(sq hb1.size)))
 all_goals go_ret
 all_goals refine ⟨?_,atS⟩
 all_goals rw [HF.out]
 all_goals first | rfl | (exfalso;have hx:=HE3.out;simp [vN, *] at hx;done)):P:=h
theorem Zab4 {P:Prop} (h:P:=by
 have HE0:=I' e0;clear e0;have LH:=I' e1;clear e1;go_enter Tryz.func17,Tryz.ntmps17;go_wp2_with (first | (go_at_call 67;refine (Ea a.hosts b.hosts _ _ _ _ _ _ _ (oO.ext atS) (tJ.ext atS) HXH.out HYH.out).mono ?_;rw [HE0.out];rintro e w0 ⟨rfl,hb0⟩;obtain ⟨hc0,hf0⟩:=ay hb0;have ahZ:w.heap.size < w0.heap.size:=(sq hb0.size);have al6:w.heap.size+1 < w0.heap.size:=(sq hb0.size)) | (go_at_call 69;refine (EH a.au b.au _ _ _ _ _ _ _ (tq.ext atS) (yV.ext atS) HXP.out HYP.out).mono ?_;rw [LH.out];rintro e w1 ⟨rfl,hb1⟩;obtain ⟨hc1,hf1⟩:=ay hb1;have zO:w.heap.size < w1.heap.size:=(sq hb1.size);have CO:w.heap.size+1 < w1.heap.size:=(sq hb1.size)))
 all_goals go_ret
 all_goals refine ⟨?_,atS⟩
 all_goals rw [HF.out]
 all_goals rfl):P:=h
theorem Zab5 {P:Prop} (h:P:=by
 exact ⟨[.slice kM x.hosts.length kN,.slice ny x.au.length nC,.int .i64 x.next,.int .i64 x.weights.pack,.int .i64 x.weights.spread,.int .i64 x.weights.soft],G,rfl,(HO.out.only OB (fun b hb=>by have:=HO.out.base b hb;omega)).mono (B':=w.heap.size) O',ext_only hb2 OB O'⟩):P:=h
theorem Zab6 {P:Prop} (h:P:=by
 rw [HK.out];rintro e w2 ⟨rfl,hb2⟩;obtain ⟨hc2,hf2⟩:=ay hb2;have hz2:w.heap.size < w2.heap.size:=by have:=hb2.size;simp at this;omega
 have hq1:w2.cell? ⟨w.heap.size,1,none⟩ = some (.int .i64 x.op):=by rw [hc2 _ _ S',cell_of_row _ _ _ _ _ _ (heap_alloc_new w _)];rfl
 have hq2:w2.cell? ⟨w.heap.size,2,none⟩ = some (.slice jy x.values.length ji):=by rw [hc2 _ _ S',cell_of_row _ _ _ _ _ _ (heap_alloc_new w _)];rfl
 have hB2:Below w.heap.size w w2:=atS;clear hc2 hf2;have h0i:((x.values.length:Int) == 0) = true:=by simp [H0.out]
 go_wp2;go_ret
 exact ⟨by rw [HF.out];first | rfl | simp_all,hB2⟩):P:=h
theorem Zab7 {P:Prop} (h:P:=by
 refine ⟨⟨c1,c2,F1,F2,rfl,rfl,h1.rd,h2.rd⟩,?_,?_,?_⟩
 ·rw [List.nodup_append];exact ⟨h1.nodup,h2.nodup,fun a ha b hb e=>hd a ha (e ▸ hb)⟩
 ·intro b hb;rcases List.mem_append.1 hb with hb | hb
  ·exact h1.base b hb
  ·exact h2.base b hb
 ·intro b hb;rcases List.mem_append.1 hb with hb | hb
  ·exact h1.plain b hb
  ·exact h2.plain b hb):P:=h
theorem Zab8 {P:Prop} (h:P:=by
 simpa only [List.map_append,List.map_cons,List.map_nil,List.append_assoc,List.cons_append,List.nil_append] using this):P:=h
theorem Zab9 {P:Prop} (h:P:=by
 refine aN ?_;intro wn hn;replace hn:=hn.out;go_wp2
 ·rename_i hne;go_ret
  refine ⟨?_,ah hbl hn⟩;rw [nP (k+1) avD HL.out];rfl
 ·rename_i hne
  exact ⟨⟨k+1,O',N',by show _ = _;rw [iC hlt hlt',Heq.out];simpa using hne,ah hbl hn⟩,by simp [intOf];omega⟩):P:=h
theorem Zaca {P:Prop} (h:P:=by
 intro wq hq;have hcq:=(aB hq).1;have lJ:=(aB hq).2;go_simp
 first
  | exact ⟨hq,rfl⟩
  | exact ⟨aQ hq _,rfl⟩
  | ((refine (TN y z _ _ _ _ wq (aJ HRY.out (ah HBR.out hq)) (aJ HRZ.out (ah HBR.out hq)) HVY.out HVZ.out).mono ?_;rw [HL.out];rintro e wz ⟨rfl,hbz⟩;exact ⟨rfl,aI hq hbz⟩))
  | (simp only [↓IntWalk.iteOmega];exact ⟨hq,rfl⟩)):P:=h
theorem Zacb {P:Prop} (h:P:=by
 go_wp2;go_ret
 exact ⟨by rw [HF.out];first | rfl | simp,atS⟩):P:=h
theorem Zacc {P:Prop} (h:P:=by
 intro wq hq;have hcq:=(aB hq).1;have lJ:=(aB hq).2;go_simp
 first
  | exact ⟨hq,rfl⟩
  | exact ⟨aQ hq _,rfl⟩
  | ((refine (aiC z y _ _ _ _ wq (rdTolerance_flat HRD.out HZM.out wq) (rdTolerance_flat HRD.out HYM.out wq)).mono ?_;rw [HL.out];rintro e wz ⟨rfl,hbz⟩;exact ⟨rfl,aI hq hbz⟩))
  | (simp only [↓IntWalk.iteOmega];exact ⟨hq,rfl⟩)):P:=h
theorem Zacd {P:Prop} (h:P:=by
 intro wq hq;have hcq:=(aB hq).1;have lJ:=(aB hq).2;go_simp
 first
  | exact ⟨hq,rfl⟩
  | exact ⟨aQ hq _,rfl⟩
  | ((refine (TN z y _ _ _ _ wq (aJ HRZ.out (ah HBR.out hq)) (aJ HRY.out (ah HBR.out hq)) HVZ.out HVY.out).mono ?_;rw [HL.out];rintro e wz ⟨rfl,hbz⟩;exact ⟨rfl,aI hq hbz⟩))
  | (simp only [↓IntWalk.iteOmega];exact ⟨hq,rfl⟩)):P:=h
theorem Zace {P:Prop} (h:P:=by
 intro wq hq;have hcq:=(aB hq).1;have lJ:=(aB hq).2;go_simp
 first
  | exact ⟨hq,rfl⟩
  | exact ⟨aQ hq _,rfl⟩
  | ((refine (anf z y _ _ _ _ wq (rdTaint_flat HRD.out HZM.out wq) (rdTaint_flat HRD.out HYM.out wq)).mono ?_;rw [HL.out];rintro e wz ⟨rfl,hbz⟩;exact ⟨rfl,aI hq hbz⟩))
  | (simp only [↓IntWalk.iteOmega];exact ⟨hq,rfl⟩)):P:=h
theorem Zacf {P:Prop} (h:P:=by
 go_wp2
 all_goals
  go_ret
  exact ⟨by first | rfl | simp_all,atS⟩):P:=h
theorem Zacg {P:Prop} (h:P:=by
 intro wq hq;have hcq:=(aB hq).1;have lJ:=(aB hq).2;go_simp
 first
  | exact ⟨hq,rfl⟩
  | exact ⟨aQ hq _,rfl⟩
  | (refine (Oa x p _ _ _ _ x.hosts[k].name _ (aJ h auT) (aJ h' auT) HW.out Uc.out).mono ?_;rw [HPR.out];rintro e w2 ⟨rfl,hb2⟩;exact ⟨rfl,aI hq hb2⟩)
  | (simp only [↓IntWalk.iteOmega];exact ⟨hq,rfl⟩)):P:=h
theorem Zach {P:Prop} (h:P:=by
 rw [Nat.zero_add,cell_of_row w g j cur e (0,0) hh]
 exact Zafh):P:=h
theorem Zaci {P:Prop} (h:P:=by
 simp only [Value.slice.injEq,true_and] at hv3;obtain ⟨hA3,hc3⟩:=hv3;subst hA3 hc3;have HO:=I' hO3;clear hO3 hown hrc hrc2;go_wp2;go_ret2
 exact ⟨A2,c2,G3,by rw [HR.out];try rfl,by rw [HR.out];exact HO.out,hb2,fun hh=>absurd hh (by rw [HR.out];simp)⟩):P:=h
theorem Zacj {P:Prop} (h:P:=by
 intro wq hq;have hcq:=(aB hq).1;have lJ:=(aB hq).2;go_simp
 first
  | exact ⟨hq,rfl⟩
  | exact ⟨aQ hq _,rfl⟩
  | (refine outcome_ofK (v:=.bool (Aq z y)) ?_ hq;unfold Aq;repeat' split;all_goals simp [*])
  | (simp only [↓IntWalk.iteOmega];exact ⟨hq,rfl⟩)):P:=h
theorem Zack {P:Prop} (h:P:=by
 intro wq hq;have hcq:=(aB hq).1;have lJ:=(aB hq).2;go_simp
 first
  | exact ⟨hq,rfl⟩
  | exact ⟨aQ hq _,rfl⟩
  | (refine outcome_ofK (v:=.bool (oP z y)) ?_ hq;unfold oP;repeat' split;all_goals simp [*])
  | (simp only [↓IntWalk.iteOmega];exact ⟨hq,rfl⟩)):P:=h
theorem Zacl {P:Prop} (h:P:=by
 rw [Jf.out,HI.out,List.length_append,List.length_cons,HJ.out];have:=HL2.out;omega):P:=h
theorem Zacm {P:Prop} (h:P:=by
 intro wq hq;have hcq:=(aB hq).1;have lJ:=(aB hq).2;go_simp
 first
  | exact ⟨hq,rfl⟩
  | exact ⟨aQ hq _,rfl⟩
  | (first | (refine (HUT.out _ (ah hB2 hq)).mono ?_;rintro e w3 ⟨rfl,hb3⟩;exact ⟨rfl,aI hq hb3⟩) | (refine (acy _ _ O' O').mono ?_;rw [HM.out];rintro e w3 ⟨rfl,rfl⟩;exact ⟨rfl,hq⟩))
  | (simp only [↓IntWalk.iteOmega];exact ⟨hq,rfl⟩)):P:=h
theorem Zacn {P:Prop} (h:P:=by
 intro j u hu;rw [Addr.add];have hc:=cell_of_row (w.alloc (.cells cs.toArray e)) w.heap.size j cs.toArray e (0,0) (heap_alloc_new w _);split
 ·rename_i hj;subst hj;rw [hc];simpa using hu
 ·simp only [Nat.zero_add];rw [hc];simpa using hu):P:=h
theorem Zaco {P:Prop} (h:P:=by
 refine ⟨0,[],[],Nat.zero_le _,rfl,?_,⟨rfl,rfl⟩,?_,ak (ak (aj _) _) _⟩
 ·have:=World.ownsRow_made (base:=w.heap.size+1) (e:=39) (size:=7) (w.alloc (.cells #[.slice bG x.hosts.length bD,.slice dn x.au.length bW,.int .i64 x.next,.int .i64 x.weights.pack,.int .i64 x.weights.spread,.int .i64 x.weights.soft] 29)) #[] 0 S' at6 rfl;simpa [F7] using this
 ·rw [World.cell?_of_block (heap_alloc_old _ _ S'),cell_of_row _ _ _ _ _ _ (heap_alloc_new w _)];rfl):P:=h
theorem Zacp {P:Prop} (h:P:=by
 have n0:(x.on.toList != y.on.toList) = false:=by rw [bne,e0];rfl
 have n1:(x.seq != y.seq) = false:=by rw [bne,e1];rfl
 have HE2:=I' e2;clear e2;go_enter Tryz.func65,Tryz.ntmps65;go_wp2_with (go_at_call 66;refine (aco x.aS y.aS _ _ _ _ _ (aJ HPA.out atS) (aJ HPB.out atS) HWA.out HWB.out).mono ?_;rw [HE2.out];rintro e w2 ⟨rfl,hb2⟩)
 go_ret
 exact ⟨by rw [HF.out];rfl,atS⟩):P:=h
theorem Zacq {P:Prop} (h:P:=by
 have HF:=I' (agS hlt hb);clear hb;rcases hr with hr | ⟨hr,hr2⟩ | ⟨hr,hr2⟩ | ⟨hr,hr2⟩ | ⟨hr,hr2⟩ | hr
 all_goals
  have hne:((s[k].toNat:Int) != 45) = true:=(by simp;omega);have hne2:((s[k].toNat:Int) == 45) = false:=(by simp;omega);go_wp2
  all_goals first
   | (go_ret;exact ⟨by rw [HF.out];rfl,atS⟩)
   | (exfalso;rename_i hx;simp at hx;omega)):P:=h
theorem Zacr {P:Prop} (h:P:=by
 intro wq hq;have hcq:=(aB hq).1;have lJ:=(aB hq).2;go_simp
 first
  | exact ⟨hq,rfl⟩
  | (refine (ajp y r _).mono ?_;rw [HL.out];rintro e wz ⟨rfl,hbz⟩;exact ⟨rfl,aI hq hbz⟩)
  | (simp only [↓IntWalk.iteOmega];exact ⟨hq,rfl⟩)):P:=h
theorem Zacs {P:Prop} (h:P:=by
 go_wp2
 exact ⟨⟨k+1,N,g,cap,O',O',N',rfl,I' (by rw [Jf.out,HI.out];exact HSL.out),by rw [Jf.out,HI.out];exact mG HROW.out (ah hbr hn),ah HBO.out (ah hbr hn)⟩,by simp [intOf];omega⟩):P:=h
theorem Zact {P:Prop} (h:P:=by
 exact ((((((((((((((U3.out.new (Nat.le_refl _) 0 _).new (Nat.le_refl _) 1 _).new (Nat.le_refl _) 2 _).new (Nat.le_refl _) 3 _).new (Nat.le_refl _) 4 _).new (Nat.le_refl _) 5 _).new (Nat.le_refl _) 6 _).new (Nat.le_refl _) 7 _).new (Nat.le_refl _) 8 _).new (Nat.le_refl _) 9 _).new (Nat.le_refl _) 10 _).new (Nat.le_refl _) 11 _).new (Nat.le_refl _) 12 _).new (Nat.le_refl _) 13 _)):P:=h
theorem Zacu {P:Prop} (h:P:=by
 rw [World.cell?_of_block (heap_alloc_old _ _ S'),cell_of_row _ _ _ _ _ _ (heap_alloc_new w _)];rfl):P:=h
theorem Zacv {P:Prop} (h:P:=by
 intro wq hq;have hcq:=(aB hq).1;have lJ:=(aB hq).2;go_simp
 first
  | exact ⟨hq,rfl⟩
  | fail
  | (simp only [↓IntWalk.iteOmega];exact ⟨hq,rfl⟩)):P:=h
theorem Zacw {P:Prop} (h:P:=by
 rcases List.mem_append.1 hz with hz | hz
 ·exact HIS.out z (by rw [HE.out];exact List.mem_append_left _ hz)
 ·rcases List.mem_cons.1 hz with rfl | hz
  ·exact hlt
  ·exact HIS.out z (by rw [HE.out];exact List.mem_append_right _ hz)):P:=h
theorem Zacx {P:Prop} (h:P:=by
 refine ⟨0,Nat.zero_le _,rfl,?_,?_,?_,ak (ak (aj _) _) _⟩
 ·exact (World.ownsRow_made w #[] 0 (Nat.le_refl _) at6 rfl).alloc _
 ·have:=World.ownsRow_made (base:=w.heap.size) (e:=3) (size:=1) (w.alloc (.cells #[] 3)) #[] 0 S' at6 rfl;simpa [iv] using this
 ·right;simp [Value.ownBlock]):P:=h
theorem Zacy {P:Prop} (h:P:=by
 go_wp2;go_ret
 exact ⟨_,rfl,hb.size,⟨⟨0,q,_,heap_alloc_new _ _,O',by unfold I64;omega⟩,fun k hk=>(by
  obtain ⟨g,o,v,e,hg,hv,hv0⟩:=hsrc k hk
  exact ⟨g,o,v,e,Nat.lt_of_lt_of_le hg hb.size,((ak hb _).cell (p:=⟨g,o+k,none⟩) hg).trans hv,hv0⟩),hn⟩,ak hb _⟩):P:=h
theorem Zacz {P:Prop} (h:P:=by
 refine Own.up (B':=B) (fun x:rZ=>(x.pack,x.spread,x.soft)) ?_ (Nat.le_refl _)
 exact Own.cons (jL w p hp) (Own.cons (jL w q hq) (Own.flat (jL w f hf)))):P:=h
theorem Zac0 {P:Prop} (h:P:=by
 rw [Bool.eq_iff_iff,decide_eq_true_eq,Wx,ByteArray.toList_eq,ByteArray.toList_eq]):P:=h
theorem Zac1 {P:Prop} (h:P:=by
 have e:GX a b = none:=by unfold GX;rw [if_pos O']
 rw [e];go_enter Tryz.func135,Tryz.ntmps135;go_wp2;go_returns
 exact ⟨rfl,aj _⟩):P:=h
theorem Zac2 {P:Prop} (h:P:=by
 have e:GX a b = none:=by unfold GX;rw [if_pos O']
 rw [e];go_enter Tryz.func182,Tryz.ntmps182;go_wp2;go_returns
 exact ⟨rfl,aj _⟩):P:=h
theorem Zac3 {P:Prop} (h:P:=by
 go_wp2
 all_goals
  go_ret
  refine ⟨?_,rfl⟩;refine congrArg (fun b=>Ending.returned (Value.bool b)) ?_;show (_:Bool) = _;unfold GL;rw [Bool.eq_iff_iff];simp only [Bool.or_eq_true,Bool.and_eq_true,decide_eq_true_eq,Bool.false_eq_true,true_iff,false_iff]
  omega):P:=h
theorem Zac4 {P:Prop} (h:P:=by
 rw [J5,← ByteArray.toList_eq,← ByteArray.toList_eq] at e
 simp [e] at h):P:=h
theorem Zac5 {P:Prop} (h:P:=by
 rintro (h1 | h1 | h1)
 ·exact .inr (.inl h1)
 ·exact .inl h1
 ·exact .inr (.inr h1)):P:=h
theorem Zac6 {P:Prop} (h:P:=by
 obtain ⟨g,o,v,e,hg,hc,hv⟩:=h3 k hk
 exact ⟨g,o,v,e,hg,(World.cell?_of_block (Below.heap_setCell _ _ _ _ atX)).trans hc,hv⟩):P:=h
theorem Zac7 {P:Prop} (h:P:=by
 go_wp2;go_ret
 exact ⟨by rw [HF.out];first | rfl | simp_all,hbl⟩):P:=h
theorem Zac8 {P:Prop} (h:P:=by
 rw [HE.out];rintro e w2 ⟨rfl,hb2⟩;go_wp2
 exact ⟨⟨k+1,O',N',HS,atS⟩,by simp [intOf];omega⟩):P:=h
theorem Zac9 {P:Prop} (h:P:=by
 exact ⟨⟨g,0,none⟩,by simp [hc],rfl,fun q u hu=>by simp at hu⟩):P:=h
theorem Zada {P:Prop} (h:P:=by
 rw [List.length_eq_zero_iff.1 h0] at hu
 simp at hu):P:=h
theorem Zadb {P:Prop} (h:P:=by
 go_wp2;go_ret
 exact ⟨xs,A',c',G,rfl,HO1.out,Du.out,HC1.out,HU1.out,HRM1.out⟩):P:=h
theorem Zadc {P:Prop} (h:P:=by
 rw [HE.out];rintro e w2 ⟨rfl,hb2⟩;go_wp2;go_ret
 exact ⟨by rw [HS.out];rfl,atS⟩):P:=h
theorem Zadd {P:Prop} (h:P:=by
 have h1:=hall e he hb;have h0:=(mem_ready.1 hr).1;rw [heq] at h1;rcases Nat.lt_or_ge i listed.size with h' | h'
 ·simp [h'] at h0 h1;rw [h0] at h1;cases h1
 ·simp [Array.getElem?_eq_none h'] at h1):P:=h
theorem Zade {P:Prop} (h:P:=by
 rw [Jf.out,HI.out];have:=vP Le (B':=w2.heap.size) HBN.out.size
 simpa only [List.flatMap_append,List.flatMap_cons,List.append_assoc,List.cons_append,List.nil_append,trow] using this):P:=h
theorem Zadf {P:Prop} (h:P:=by
 rw [Jf.out,HI.out];have:=vP Le (B':=w2.heap.size) HBN.out.size
 simpa only [List.flatMap_append,List.flatMap_cons,List.append_assoc,List.cons_append,List.nil_append,vrow] using this):P:=h
theorem Zadg {P:Prop} (h:P:=by
 exact ((((((((((((((HC3.out.far hlt 0 _).far hlt 1 _).far hlt 2 _).far hlt 3 _).far hlt 4 _).far hlt 5 _).far hlt 6 _).far hlt 7 _).far hlt 8 _).far hlt 9 _).far hlt 10 _).far hlt 11 _).far hlt 12 _).far hlt 13 _)):P:=h
theorem Zadh {P:Prop} (h:P:=by
 rw [Jf.out,HI.out];have:=vP Le (B':=w2.heap.size) HBN.out.size
 simpa only [List.flatMap_append,List.flatMap_cons,List.append_assoc,List.cons_append,List.nil_append,lrow] using this):P:=h
theorem Zadi {P:Prop} (h:P:=by
 have hkl:k = xs.length:=by omega
 subst hkl;have hf:GZ xs 0 = some s:=by rw [HS.out,List.drop_length];rfl
 have HF:=I' hf;clear hf;go_wp2;go_returns
 exact ⟨by rw [HF.out];rfl,hbl⟩):P:=h
theorem Zadj {P:Prop} (h:P:=by
 rw [Jf.out,← HMAP.out,HE.out,List.map_append,List.map_append,List.map_cons,HKK.out]
 exact (PY _ _ (fun z hz=>by obtain ⟨z0,hz0,rfl⟩:=List.mem_map.1 hz;exact HN.out z0 hz0) asT.out).symm):P:=h
theorem Zadk {P:Prop} (h:P:=by
 go_wp2;go_ret
 exact ⟨by rw [HL.out];rfl,aj _⟩):P:=h
theorem Zadl {P:Prop} (h:P:=by
 rcases Nat.lt_or_ge g w.heap.size with h5 | h5
 ·exact h5
 ·rw [Array.getElem?_eq_none h5] at h3;cases h3):P:=h
theorem Zadm {P:Prop} (h:P:=by
 unfold Lib.compareInt;rw [Bool.eq_iff_iff,decide_eq_true_eq,decide_eq_true_eq];repeat' split
 all_goals omega):P:=h
theorem Zadn {P:Prop} (h:P:=by
 rw [HRY.out,HN.out];refine Own.mono (B:=w.heap.size+1+1+1) ?_ O'
 exact (by repeat (first | with_reducible exact HOWN7.out | with_reducible refine Own.setCell ?_ atX _))):P:=h
theorem Zado {P:Prop} (h:P:=by
 have hkl:k = xs.length:=by omega
 subst hkl;have hn:=Hn.out;rw [List.take_length] at hn;have HI:=I' (F5 hn);clear hn;go_wp2;go_ret
 exact ⟨by rw [HI.out];rfl,hbl⟩):P:=h
theorem Zadp {P:Prop} (h:P:=by
 rw [List.pairwise_append,List.pairwise_cons];refine ⟨h0.1,⟨hb,h0.2.1⟩,fun a ha' b hb'=>?_⟩;rcases List.mem_cons.1 hb' with rfl | hb'
 ·exact ha a ha'
 ·exact h0.2.2 a ha' b hb'):P:=h
theorem Zadq {P:Prop} (h:P:=by
 go_wp2;go_ret
 exact ⟨by rw [HN.out];rfl,rfl⟩):P:=h
theorem Zadr {P:Prop} (h:P:=by
 go_wp2_with (fail)
 go_ret
 exact ⟨by rw [HF.out];rfl,atS⟩):P:=h
theorem Zads {P:Prop} (h:P:=by
 have h8:=HGH.out y (Ie.out y h9)
 exact ⟨O',O',fun hm=>HDP.out y (Ie.out y h9) hm⟩):P:=h
theorem Zadt {P:Prop} (h:P:=by
 have h8:=HGP.out y (Ie.out y h9)
 exact ⟨O',O',fun hm=>HDP.out y hm (Ie.out y h9)⟩):P:=h
theorem Zadu {P:Prop} (h:P:=by
 split
 ·rename_i h2;first | exact h2 | exact h2.2
 ·rename_i h2;rw [if_neg h2] at h;cases h):P:=h
theorem Zadv {P:Prop} (h:P:=by
 rcases Nat.lt_or_gt_of_ne hij with h1 | h1
 ·exact bl_ne (List.pairwise_iff_getElem.1 h i j hi hj h1)
 ·exact (bl_ne (List.pairwise_iff_getElem.1 h j i hj hi h1)).symm):P:=h
theorem Zadw {P:Prop} (h:P:=by
 have hk':k = 0∨k = 1∨k = 2∨k = 3∨k = 4∨k = 5:=by omega
 rcases hk' with rfl | rfl | rfl | rfl | rfl | rfl <;> exact ⟨_,alloc_cell _ _ _ _ _ rfl,by decide⟩):P:=h
theorem Zadx {P:Prop} (h:P:=by
 go_enter Tryz.func41,Tryz.ntmps41;go_wp2;go_ret
 exact ⟨by rw [hs.out];rfl,aj _⟩):P:=h
theorem Zady {P:Prop} (h:P:=by
 refine Or.inl ⟨rfl,fun wq hq=>?_⟩;have hcq:=(aB hq).1;go_simp
 try rfl):P:=h
theorem Zadz {P:Prop} (h:P:=by
 exact (hbn.cell (p:=⟨g,q,none⟩) atX).trans (asc.out q u hu)):P:=h
theorem Zad0 {P:Prop} (h:P:=by
 have h2:=eq_of_beq h.2;cases a;cases b
 simp only at h0 h1 h2;subst h0 h1 h2
 rfl):P:=h
theorem Zad1 {P:Prop} (h:P:=by
 go_wp2;go_ret
 exact ⟨by rw [HG.out];first | rfl | simp_all,hbl⟩):P:=h
theorem Zad2 {P:Prop} (h:P:=by
 go_enter Tryz.func98,Tryz.ntmps98;go_wp2;go_ret
 exact ⟨rfl,rfl⟩):P:=h
theorem Zad3 {P:Prop} (h:P:=by
 have hn:=Hn.out;rw [hkl,List.take_length] at hn;have HI:=I' (F5 hn);clear hn hkl;go_wp2;go_ret
 exact ⟨by rw [HI.out];rfl,atS⟩):P:=h
theorem Zad4 {P:Prop} (h:P:=by
 split
 ·rename_i hw;rw [if_pos hw] at h;exact .inl (Oper.wp_mono next h)
 ·rename_i hw;rw [if_neg hw] at h
  exact next _ _ h):P:=h
theorem Zad5 {P:Prop} (h:P:=by
 refine aN ?_;intro wn hn;replace hn:=hn.out;go_wp2
 exact ⟨⟨k+1,hk2,N',ah hbr hn⟩,by simp [intOf];omega⟩):P:=h
theorem Zad6 {P:Prop} (h:P:=by
 simp only [Bool.and_eq_true,decide_eq_true_eq] at h
 omega):P:=h
theorem Zad7 {P:Prop} (h:P:=by
 simp only [List.map_cons,List.sum_cons];omega):P:=h
theorem Zad8 {P:Prop} (h:P:=by
 rintro e w2 ⟨rfl,hw⟩;rw [hw];clear hw w2;go_wp2;go_ret
 exact ⟨by rw [HF.out];rfl,aj _⟩):P:=h
theorem Zad9 {P:Prop} (h:P:=by
 rw [xK] at h;rcases MK h with h | h
 ·exact .inl h
 ·rw [List.mem_singleton.1 h];exact .inr (List.mem_cons_self ..)):P:=h
theorem Zaea {P:Prop} (h:P:=by
 go_wp2
 exact ⟨⟨k+1,O',N',Gn.out,atS⟩,by simp [intOf];omega⟩):P:=h
theorem Zaeb {P:Prop} (h:P:=by
 refine ⟨⟨k+1,O',N',by rw [ae7 _ _ _ hlt];exact hu3,by rw [ae7 _ _ _ hlt];exact hv3,hap3.symm,hb3⟩,by simp [intOf];omega⟩):P:=h
theorem Zaec {P:Prop} (h:P:=by
 intro HK;have hbx:Below wn.heap.size wn wn.drew:=aA (aj _)
 refine aX 1 _ J' U' (fun _ _ d _ _ h=>by cases d <;> exact h) hbx (Or.inl ⟨rfl,fun wq hq=>by
  have hcq:=(aB hq).1;go_simp
  try rfl⟩) ?_
 try simp only [Act.put,pz]
 refine aX 2 _ J' U' (fun _ _ d _ _ h=>by cases d <;> exact h) hbx (Or.inl ⟨rfl,fun wq hq=>by
  have hcq:=(aB hq).1;go_simp
  try rfl⟩) ?_
 try simp only [Act.put,pz]
 refine aX 3 _ J' U' (fun _ _ d _ _ h=>by cases d <;> exact h) hbx (Or.inl ⟨rfl,fun wq hq=>by
  have hcq:=(aB hq).1;go_simp
  try rfl⟩) ?_
 try simp only [Act.put,pz]
 refine aX 5 _ J' U' (fun _ _ d _ _ h=>by cases d <;> exact h) hbx (Or.inl ⟨rfl,fun wq hq=>by
  have hcq:=(aB hq).1;go_simp
  try rfl⟩) ?_
 try simp only [Act.put,pz]
 refine aX 6 _ J' U' (fun _ _ d _ _ h=>by cases d <;> exact h) hbx (Or.inl ⟨rfl,fun wq hq=>by
  have hcq:=(aB hq).1;go_simp
  try rfl⟩) ?_
 try simp only [Act.put,pz]
 refine aX 7 _ J' U' (fun _ _ d _ _ h=>by cases d <;> exact h) hbx (Or.inl ⟨rfl,fun wq hq=>by
  have hcq:=(aB hq).1;go_simp
  try rfl⟩) ?_
 try simp only [Act.put,pz]
 refine aX 8 _ J' U' (fun _ _ d _ _ h=>by cases d <;> exact h) hbx (Or.inl ⟨rfl,fun wq hq=>by
  have hcq:=(aB hq).1;go_simp
  try rfl⟩) ?_
 try simp only [Act.put,pz]
 refine D7 0 9 J' J' U' J' J' (fun K hK=>?_) (fun K hK=>?_)
 ·go_simp;refine hK _ _ (ak hbx (.cells #[] 148)) ?_;try simp only [Act.put,pz]
  clear hK K;have Qz:=ak hbx (.cells #[] 148);have hrA:=D9 wn.drew 148 4 wn.heap.size rfl;refine D7 4 9 J' J' U' J' J' (fun K hK=>?_) (fun K hK=>?_)
  ·refine qQ elSTolerance _ _ J' (wn.drew.alloc (.cells #[] 148)) wn.heap.size _ 0 [] hrA J' ⟨g,0,none⟩ jj cap ((s1.flatMap vrow)) J' (by rw [rowsLen (row:=vrow) (S:=4) (fun _=>rfl),HJ.out]) (fun q u hu=>(Qz.cell (p:=(⟨g,0,none⟩:Addr).add q) auX).trans (HNC.out q u hu)) (rowsOne vrow_one s1) O' O' auI ?_;intro v5 w5 hown5 hg5 aaQ;have hb5:Below wn.heap.size wn w5:=Below.grown (Qz) hg5 auI (fun q hq=>(hrA.lt q hq).1);refine hK _ _ hb5 ?_;try simp only [Act.put,pz]
   clear hK K;refine bP 9 J' U' J' (fun K hK=>?_);go_simp;refine hK _ _ (ak hb5 (.cells #[.string y.key,.bool y.equal,.string y.value,.int .i64 y.effect] 148)) ?_;try simp only [Act.put,pz]
   clear hK K;have hbB:=ak hb5 (.cells #[.string y.key,.bool y.equal,.string y.value,.int .i64 y.effect] 148);refine bP 10 J' U' J' (fun K hK=>?_);refine qQ elSTolerance _ _ J' (w5.alloc (.cells #[.string y.key,.bool y.equal,.string y.value,.int .i64 y.effect] 148)) wn.heap.size v5 _ _ (mG hown5 (ak (aj _) _)) J' ⟨w5.heap.size,0,none⟩ 1 1 [.string y.key,.bool y.equal,.string y.value,.int .i64 y.effect] J' J' (DI w5 148 [.string y.key,.bool y.equal,.string y.value,.int .i64 y.effect] w5.heap.size rfl) (vrow_one y) O' O' auJ ?_;exact Zafx
  ·go_simp;refine hK _ _ (ak Qz (.cells #[.string y.key,.bool y.equal,.string y.value,.int .i64 y.effect] 148)) ?_;try simp only [Act.put,pz]
   clear hK K;have hbB:=ak Qz (.cells #[.string y.key,.bool y.equal,.string y.value,.int .i64 y.effect] 148);replace hrA:=mG hrA (ak (aj _) (.cells #[.string y.key,.bool y.equal,.string y.value,.int .i64 y.effect] 148));refine bP 4 J' U' J' (fun K hK=>?_);refine qQ elSTolerance _ _ J' ((wn.drew.alloc (.cells #[] 148)).alloc (.cells #[.string y.key,.bool y.equal,.string y.value,.int .i64 y.effect] 148)) wn.heap.size _ 0 [] hrA J' ⟨g,0,none⟩ jj cap ((s1.flatMap vrow)) J' (by rw [rowsLen (row:=vrow) (S:=4) (fun _=>rfl),HJ.out]) (fun q u hu=>(hbB.cell (p:=(⟨g,0,none⟩:Addr).add q) auX).trans (HNC.out q u hu)) (rowsOne vrow_one s1) O' O' auJ ?_;intro v5 w5 hown5 hg5 aaQ;have hb5:Below wn.heap.size wn w5:=Below.grown (hbB) hg5 auJ (fun q hq=>(hrA.lt q hq).1);refine hK _ _ hb5 ?_;try simp only [Act.put,pz]
   clear hK K;refine bP 10 J' U' J' (fun K hK=>?_);refine qQ elSTolerance _ _ J' w5 wn.heap.size v5 _ _ hown5 J' ⟨wn.heap.size+1,0,none⟩ 1 1 [.string y.key,.bool y.equal,.string y.value,.int .i64 y.effect] J' J' (fun q u hu=>(World.cell?_of_block awP).trans ((DI (wn.drew.alloc (.cells #[] 148)) 148 [.string y.key,.bool y.equal,.string y.value,.int .i64 y.effect] (wn.heap.size+1) S') q u hu)) (vrow_one y) O' O' auK ?_;exact Zaab
 ·go_simp;refine hK _ _ (ak hbx (.cells #[.string y.key,.bool y.equal,.string y.value,.int .i64 y.effect] 148)) ?_;try simp only [Act.put,pz]
  clear hK K;have hbB:=ak hbx (.cells #[.string y.key,.bool y.equal,.string y.value,.int .i64 y.effect] 148);refine bP 0 J' U' J' (fun K hK=>?_);go_simp;refine hK _ _ (ak hbB (.cells #[] 148)) ?_;try simp only [Act.put,pz]
  clear hK K;have Qz:=ak hbB (.cells #[] 148);have hrA:=vP (D9 (wn.drew.alloc (.cells #[.string y.key,.bool y.equal,.string y.value,.int .i64 y.effect] 148)) 148 4 (wn.heap.size+1) S') (B':=wn.heap.size) O';refine bP 4 J' U' J' (fun K hK=>?_);refine qQ elSTolerance _ _ J' ((wn.drew.alloc (.cells #[.string y.key,.bool y.equal,.string y.value,.int .i64 y.effect] 148)).alloc (.cells #[] 148)) wn.heap.size _ 0 [] hrA J' ⟨g,0,none⟩ jj cap ((s1.flatMap vrow)) J' (by rw [rowsLen (row:=vrow) (S:=4) (fun _=>rfl),HJ.out]) (fun q u hu=>(Qz.cell (p:=(⟨g,0,none⟩:Addr).add q) auX).trans (HNC.out q u hu)) (rowsOne vrow_one s1) O' O' auI ?_;intro v5 w5 hown5 hg5 aaQ;have hb5:Below wn.heap.size wn w5:=Below.grown (Qz) hg5 auI (fun q hq=>(hrA.lt q hq).1);refine hK _ _ hb5 ?_;try simp only [Act.put,pz]
  clear hK K;refine bP 10 J' U' J' (fun K hK=>?_);refine qQ elSTolerance _ _ J' w5 wn.heap.size v5 _ _ hown5 J' ⟨wn.heap.size,0,none⟩ 1 1 [.string y.key,.bool y.equal,.string y.value,.int .i64 y.effect] J' J' (fun q u hu=>(World.cell?_of_block awQ).trans ((DI wn.drew 148 [.string y.key,.bool y.equal,.string y.value,.int .i64 y.effect] wn.heap.size rfl) q u hu)) (vrow_one y) O' O' auK ?_
  exact Zaab):P:=h
theorem Zaed {P:Prop} (h:P:=by
 intro HK;have hbx:Below wn.heap.size wn wn.drew:=aA (aj _)
 refine aX 1 _ J' U' (fun _ _ d _ _ h=>by cases d <;> exact h) hbx (Or.inl ⟨rfl,fun wq hq=>by
  have hcq:=(aB hq).1;go_simp
  try rfl⟩) ?_
 try simp only [Act.put,pz]
 refine aX 2 _ J' U' (fun _ _ d _ _ h=>by cases d <;> exact h) hbx (Or.inl ⟨rfl,fun wq hq=>by
  have hcq:=(aB hq).1;go_simp
  try rfl⟩) ?_
 try simp only [Act.put,pz]
 refine aX 3 _ J' U' (fun _ _ d _ _ h=>by cases d <;> exact h) hbx (Or.inl ⟨rfl,fun wq hq=>by
  have hcq:=(aB hq).1;go_simp
  try rfl⟩) ?_
 try simp only [Act.put,pz]
 refine aX 5 _ J' U' (fun _ _ d _ _ h=>by cases d <;> exact h) hbx (Or.inl ⟨rfl,fun wq hq=>by
  have hcq:=(aB hq).1;go_simp
  try rfl⟩) ?_
 try simp only [Act.put,pz]
 refine aX 6 _ J' U' (fun _ _ d _ _ h=>by cases d <;> exact h) hbx (Or.inl ⟨rfl,fun wq hq=>by
  have hcq:=(aB hq).1;go_simp
  try rfl⟩) ?_
 try simp only [Act.put,pz]
 refine aX 7 _ J' U' (fun _ _ d _ _ h=>by cases d <;> exact h) hbx (Or.inl ⟨rfl,fun wq hq=>by
  have hcq:=(aB hq).1;go_simp
  try rfl⟩) ?_
 try simp only [Act.put,pz]
 refine aX 8 _ J' U' (fun _ _ d _ _ h=>by cases d <;> exact h) hbx (Or.inl ⟨rfl,fun wq hq=>by
  have hcq:=(aB hq).1;go_simp
  try rfl⟩) ?_
 try simp only [Act.put,pz]
 refine D7 0 9 J' J' U' J' J' (fun K hK=>?_) (fun K hK=>?_)
 ·go_simp;refine hK _ _ (ak hbx (.cells #[] 151)) ?_;try simp only [Act.put,pz]
  clear hK K;have Qz:=ak hbx (.cells #[] 151);have hrA:=D9 wn.drew 151 3 wn.heap.size rfl;refine D7 4 9 J' J' U' J' J' (fun K hK=>?_) (fun K hK=>?_)
  ·refine qQ elSTaint _ _ J' (wn.drew.alloc (.cells #[] 151)) wn.heap.size _ 0 [] hrA J' ⟨g,0,none⟩ jj cap ((s1.flatMap trow)) J' (by rw [rowsLen (row:=trow) (S:=3) (fun _=>rfl),HJ.out]) (fun q u hu=>(Qz.cell (p:=(⟨g,0,none⟩:Addr).add q) auX).trans (HNC.out q u hu)) (rowsOne trow_one s1) O' O' auI ?_;intro v5 w5 hown5 hg5 aaQ;have hb5:Below wn.heap.size wn w5:=Below.grown (Qz) hg5 auI (fun q hq=>(hrA.lt q hq).1);refine hK _ _ hb5 ?_;try simp only [Act.put,pz]
   clear hK K;refine bP 9 J' U' J' (fun K hK=>?_);go_simp;refine hK _ _ (ak hb5 (.cells #[.string y.key,.string y.value,.int .i64 y.effect] 151)) ?_;try simp only [Act.put,pz]
   clear hK K;have hbB:=ak hb5 (.cells #[.string y.key,.string y.value,.int .i64 y.effect] 151);refine bP 10 J' U' J' (fun K hK=>?_);refine qQ elSTaint _ _ J' (w5.alloc (.cells #[.string y.key,.string y.value,.int .i64 y.effect] 151)) wn.heap.size v5 _ _ (mG hown5 (ak (aj _) _)) J' ⟨w5.heap.size,0,none⟩ 1 1 [.string y.key,.string y.value,.int .i64 y.effect] J' J' (DI w5 151 [.string y.key,.string y.value,.int .i64 y.effect] w5.heap.size rfl) (trow_one y) O' O' auJ ?_;exact Zafx
  ·go_simp;refine hK _ _ (ak Qz (.cells #[.string y.key,.string y.value,.int .i64 y.effect] 151)) ?_;try simp only [Act.put,pz]
   clear hK K;have hbB:=ak Qz (.cells #[.string y.key,.string y.value,.int .i64 y.effect] 151);replace hrA:=mG hrA (ak (aj _) (.cells #[.string y.key,.string y.value,.int .i64 y.effect] 151));refine bP 4 J' U' J' (fun K hK=>?_);refine qQ elSTaint _ _ J' ((wn.drew.alloc (.cells #[] 151)).alloc (.cells #[.string y.key,.string y.value,.int .i64 y.effect] 151)) wn.heap.size _ 0 [] hrA J' ⟨g,0,none⟩ jj cap ((s1.flatMap trow)) J' (by rw [rowsLen (row:=trow) (S:=3) (fun _=>rfl),HJ.out]) (fun q u hu=>(hbB.cell (p:=(⟨g,0,none⟩:Addr).add q) auX).trans (HNC.out q u hu)) (rowsOne trow_one s1) O' O' auJ ?_;intro v5 w5 hown5 hg5 aaQ;have hb5:Below wn.heap.size wn w5:=Below.grown (hbB) hg5 auJ (fun q hq=>(hrA.lt q hq).1);refine hK _ _ hb5 ?_;try simp only [Act.put,pz]
   clear hK K;refine bP 10 J' U' J' (fun K hK=>?_);refine qQ elSTaint _ _ J' w5 wn.heap.size v5 _ _ hown5 J' ⟨wn.heap.size+1,0,none⟩ 1 1 [.string y.key,.string y.value,.int .i64 y.effect] J' J' (fun q u hu=>(World.cell?_of_block awP).trans ((DI (wn.drew.alloc (.cells #[] 151)) 151 [.string y.key,.string y.value,.int .i64 y.effect] (wn.heap.size+1) S') q u hu)) (trow_one y) O' O' auK ?_;exact Zaab
 ·go_simp;refine hK _ _ (ak hbx (.cells #[.string y.key,.string y.value,.int .i64 y.effect] 151)) ?_;try simp only [Act.put,pz]
  clear hK K;have hbB:=ak hbx (.cells #[.string y.key,.string y.value,.int .i64 y.effect] 151);refine bP 0 J' U' J' (fun K hK=>?_);go_simp;refine hK _ _ (ak hbB (.cells #[] 151)) ?_;try simp only [Act.put,pz]
  clear hK K;have Qz:=ak hbB (.cells #[] 151);have hrA:=vP (D9 (wn.drew.alloc (.cells #[.string y.key,.string y.value,.int .i64 y.effect] 151)) 151 3 (wn.heap.size+1) S') (B':=wn.heap.size) O';refine bP 4 J' U' J' (fun K hK=>?_);refine qQ elSTaint _ _ J' ((wn.drew.alloc (.cells #[.string y.key,.string y.value,.int .i64 y.effect] 151)).alloc (.cells #[] 151)) wn.heap.size _ 0 [] hrA J' ⟨g,0,none⟩ jj cap ((s1.flatMap trow)) J' (by rw [rowsLen (row:=trow) (S:=3) (fun _=>rfl),HJ.out]) (fun q u hu=>(Qz.cell (p:=(⟨g,0,none⟩:Addr).add q) auX).trans (HNC.out q u hu)) (rowsOne trow_one s1) O' O' auI ?_;intro v5 w5 hown5 hg5 aaQ;have hb5:Below wn.heap.size wn w5:=Below.grown (Qz) hg5 auI (fun q hq=>(hrA.lt q hq).1);refine hK _ _ hb5 ?_;try simp only [Act.put,pz]
  clear hK K;refine bP 10 J' U' J' (fun K hK=>?_);refine qQ elSTaint _ _ J' w5 wn.heap.size v5 _ _ hown5 J' ⟨wn.heap.size,0,none⟩ 1 1 [.string y.key,.string y.value,.int .i64 y.effect] J' J' (fun q u hu=>(World.cell?_of_block awQ).trans ((DI wn.drew 151 [.string y.key,.string y.value,.int .i64 y.effect] wn.heap.size rfl) q u hu)) (trow_one y) O' O' auK ?_
  exact Zaab):P:=h
theorem Zaee {P:Prop} (h:P:=by
 intro HK;have hbx:Below wn.heap.size wn wn.drew:=aA (aj _)
 refine aX 1 _ J' U' (fun _ _ d _ _ h=>by cases d <;> exact h) hbx (Or.inl ⟨rfl,fun wq hq=>by
  have hcq:=(aB hq).1;go_simp
  try rfl⟩) ?_
 try simp only [Act.put,pz]
 refine aX 2 _ J' U' (fun _ _ d _ _ h=>by cases d <;> exact h) hbx (Or.inl ⟨rfl,fun wq hq=>by
  have hcq:=(aB hq).1;go_simp
  try rfl⟩) ?_
 try simp only [Act.put,pz]
 refine aX 3 _ J' U' (fun _ _ d _ _ h=>by cases d <;> exact h) hbx (Or.inl ⟨rfl,fun wq hq=>by
  have hcq:=(aB hq).1;go_simp
  try rfl⟩) ?_
 try simp only [Act.put,pz]
 refine aX 5 _ J' U' (fun _ _ d _ _ h=>by cases d <;> exact h) hbx (Or.inl ⟨rfl,fun wq hq=>by
  have hcq:=(aB hq).1;go_simp
  try rfl⟩) ?_
 try simp only [Act.put,pz]
 refine aX 6 _ J' U' (fun _ _ d _ _ h=>by cases d <;> exact h) hbx (Or.inl ⟨rfl,fun wq hq=>by
  have hcq:=(aB hq).1;go_simp
  try rfl⟩) ?_
 try simp only [Act.put,pz]
 refine aX 7 _ J' U' (fun _ _ d _ _ h=>by cases d <;> exact h) hbx (Or.inl ⟨rfl,fun wq hq=>by
  have hcq:=(aB hq).1;go_simp
  try rfl⟩) ?_
 try simp only [Act.put,pz]
 refine aX 8 _ J' U' (fun _ _ d _ _ h=>by cases d <;> exact h) hbx (Or.inl ⟨rfl,fun wq hq=>by
  have hcq:=(aB hq).1;go_simp
  try rfl⟩) ?_
 try simp only [Act.put,pz]
 refine D7 0 9 J' J' U' J' J' (fun K hK=>?_) (fun K hK=>?_)
 ·go_simp;refine hK _ _ (ak hbx (.cells #[] 107)) ?_;try simp only [Act.put,pz]
  clear hK K;have Qz:=ak hbx (.cells #[] 107);have hrA:=D9 wn.drew 107 2 wn.heap.size rfl;refine D7 4 9 J' J' U' J' J' (fun K hK=>?_) (fun K hK=>?_)
  ·refine qQ elSLabel _ _ J' (wn.drew.alloc (.cells #[] 107)) wn.heap.size _ 0 [] hrA J' ⟨g,0,none⟩ jj cap ((s1.flatMap lrow)) J' (by rw [rowsLen (row:=lrow) (S:=2) (fun _=>rfl),HJ.out]) (fun q u hu=>(Qz.cell (p:=(⟨g,0,none⟩:Addr).add q) auX).trans (HNC.out q u hu)) (rowsOne lrow_one s1) O' O' auI ?_;intro v5 w5 hown5 hg5 aaQ;have hb5:Below wn.heap.size wn w5:=Below.grown (Qz) hg5 auI (fun q hq=>(hrA.lt q hq).1);refine hK _ _ hb5 ?_;try simp only [Act.put,pz]
   clear hK K;refine bP 9 J' U' J' (fun K hK=>?_);go_simp;refine hK _ _ (ak hb5 (.cells #[.string y.key,.string y.value] 107)) ?_;try simp only [Act.put,pz]
   clear hK K;have hbB:=ak hb5 (.cells #[.string y.key,.string y.value] 107);refine bP 10 J' U' J' (fun K hK=>?_);refine qQ elSLabel _ _ J' (w5.alloc (.cells #[.string y.key,.string y.value] 107)) wn.heap.size v5 _ _ (mG hown5 (ak (aj _) _)) J' ⟨w5.heap.size,0,none⟩ 1 1 [.string y.key,.string y.value] J' J' (DI w5 107 [.string y.key,.string y.value] w5.heap.size rfl) (lrow_one y) O' O' auJ ?_;exact Zafx
  ·go_simp;refine hK _ _ (ak Qz (.cells #[.string y.key,.string y.value] 107)) ?_;try simp only [Act.put,pz]
   clear hK K;have hbB:=ak Qz (.cells #[.string y.key,.string y.value] 107);replace hrA:=mG hrA (ak (aj _) (.cells #[.string y.key,.string y.value] 107));refine bP 4 J' U' J' (fun K hK=>?_);refine qQ elSLabel _ _ J' ((wn.drew.alloc (.cells #[] 107)).alloc (.cells #[.string y.key,.string y.value] 107)) wn.heap.size _ 0 [] hrA J' ⟨g,0,none⟩ jj cap ((s1.flatMap lrow)) J' (by rw [rowsLen (row:=lrow) (S:=2) (fun _=>rfl),HJ.out]) (fun q u hu=>(hbB.cell (p:=(⟨g,0,none⟩:Addr).add q) auX).trans (HNC.out q u hu)) (rowsOne lrow_one s1) O' O' auJ ?_;intro v5 w5 hown5 hg5 aaQ;have hb5:Below wn.heap.size wn w5:=Below.grown (hbB) hg5 auJ (fun q hq=>(hrA.lt q hq).1);refine hK _ _ hb5 ?_;try simp only [Act.put,pz]
   clear hK K;refine bP 10 J' U' J' (fun K hK=>?_);refine qQ elSLabel _ _ J' w5 wn.heap.size v5 _ _ hown5 J' ⟨wn.heap.size+1,0,none⟩ 1 1 [.string y.key,.string y.value] J' J' (fun q u hu=>(World.cell?_of_block awP).trans ((DI (wn.drew.alloc (.cells #[] 107)) 107 [.string y.key,.string y.value] (wn.heap.size+1) S') q u hu)) (lrow_one y) O' O' auK ?_;exact Zaab
 ·go_simp;refine hK _ _ (ak hbx (.cells #[.string y.key,.string y.value] 107)) ?_;try simp only [Act.put,pz]
  clear hK K;have hbB:=ak hbx (.cells #[.string y.key,.string y.value] 107);refine bP 0 J' U' J' (fun K hK=>?_);go_simp;refine hK _ _ (ak hbB (.cells #[] 107)) ?_;try simp only [Act.put,pz]
  clear hK K;have Qz:=ak hbB (.cells #[] 107);have hrA:=vP (D9 (wn.drew.alloc (.cells #[.string y.key,.string y.value] 107)) 107 2 (wn.heap.size+1) S') (B':=wn.heap.size) O';refine bP 4 J' U' J' (fun K hK=>?_);refine qQ elSLabel _ _ J' ((wn.drew.alloc (.cells #[.string y.key,.string y.value] 107)).alloc (.cells #[] 107)) wn.heap.size _ 0 [] hrA J' ⟨g,0,none⟩ jj cap ((s1.flatMap lrow)) J' (by rw [rowsLen (row:=lrow) (S:=2) (fun _=>rfl),HJ.out]) (fun q u hu=>(Qz.cell (p:=(⟨g,0,none⟩:Addr).add q) auX).trans (HNC.out q u hu)) (rowsOne lrow_one s1) O' O' auI ?_;intro v5 w5 hown5 hg5 aaQ;have hb5:Below wn.heap.size wn w5:=Below.grown (Qz) hg5 auI (fun q hq=>(hrA.lt q hq).1);refine hK _ _ hb5 ?_;try simp only [Act.put,pz]
  clear hK K;refine bP 10 J' U' J' (fun K hK=>?_);refine qQ elSLabel _ _ J' w5 wn.heap.size v5 _ _ hown5 J' ⟨wn.heap.size,0,none⟩ 1 1 [.string y.key,.string y.value] J' J' (fun q u hu=>(World.cell?_of_block awQ).trans ((DI wn.drew 107 [.string y.key,.string y.value] wn.heap.size rfl) q u hu)) (lrow_one y) O' O' auK ?_
  exact Zaab):P:=h
theorem Zaef {P:Prop} (h:P:=by
 intro HK;have hbx:Below wn.heap.size wn wn.drew:=aA (aj _)
 refine aX 1 _ J' U' (fun _ _ d _ _ h=>by cases d <;> exact h) hbx (Or.inl ⟨rfl,fun wq hq=>by
  have hcq:=(aB hq).1;go_simp
  try rfl⟩) ?_
 try simp only [Act.put,pz]
 refine aX 2 _ J' U' (fun _ _ d _ _ h=>by cases d <;> exact h) hbx (Or.inl ⟨rfl,fun wq hq=>by
  have hcq:=(aB hq).1;go_simp
  try rfl⟩) ?_
 try simp only [Act.put,pz]
 refine aX 3 _ J' U' (fun _ _ d _ _ h=>by cases d <;> exact h) hbx (Or.inl ⟨rfl,fun wq hq=>by
  have hcq:=(aB hq).1;go_simp
  try rfl⟩) ?_
 try simp only [Act.put,pz]
 refine aX 5 _ J' U' (fun _ _ d _ _ h=>by cases d <;> exact h) hbx (Or.inl ⟨rfl,fun wq hq=>by
  have hcq:=(aB hq).1;go_simp
  try rfl⟩) ?_
 try simp only [Act.put,pz]
 refine aX 6 _ J' U' (fun _ _ d _ _ h=>by cases d <;> exact h) hbx (Or.inl ⟨rfl,fun wq hq=>by
  have hcq:=(aB hq).1;go_simp
  try rfl⟩) ?_
 try simp only [Act.put,pz]
 refine aX 7 _ J' U' (fun _ _ d _ _ h=>by cases d <;> exact h) hbx (Or.inl ⟨rfl,fun wq hq=>by
  have hcq:=(aB hq).1;go_simp
  try rfl⟩) ?_
 try simp only [Act.put,pz]
 refine aX 8 _ J' U' (fun _ _ d _ _ h=>by cases d <;> exact h) hbx (Or.inl ⟨rfl,fun wq hq=>by
  have hcq:=(aB hq).1;go_simp
  try rfl⟩) ?_
 try simp only [Act.put,pz]
 refine D7 0 9 J' J' U' J' J' (fun K hK=>?_) (fun K hK=>?_)
 ·go_simp;refine hK _ _ (ak hbx (.cells #[] 9)) ?_;try simp only [Act.put,pz]
  clear hK K;have Qz:=ak hbx (.cells #[] 9);have hrA:=D9 wn.drew 9 1 wn.heap.size rfl;refine D7 4 9 J' J' U' J' J' (fun K hK=>?_) (fun K hK=>?_)
  ·refine qQ qw _ _ J' (wn.drew.alloc (.cells #[] 9)) wn.heap.size _ 0 [] hrA J' ⟨g,0,none⟩ jj cap (((s1).map Value.string)) J' auP (fun q u hu=>(Qz.cell (p:=(⟨g,0,none⟩:Addr).add q) auX).trans (HNC.out q u hu)) (fun u hu=>by obtain ⟨z0,_,rfl⟩:=List.mem_map.1 hu;rfl) O' O' auI ?_;intro v5 w5 hown5 hg5 aaQ;have hb5:Below wn.heap.size wn w5:=Below.grown (Qz) hg5 auI (fun q hq=>(hrA.lt q hq).1);refine hK _ _ hb5 ?_;try simp only [Act.put,pz]
   clear hK K;refine bP 9 J' U' J' (fun K hK=>?_);go_simp;refine hK _ _ (ak hb5 (.cells #[.string y] 9)) ?_;try simp only [Act.put,pz]
   clear hK K;have hbB:=ak hb5 (.cells #[.string y] 9);refine bP 10 J' U' J' (fun K hK=>?_);refine qQ qw _ _ J' (w5.alloc (.cells #[.string y] 9)) wn.heap.size v5 _ _ (mG hown5 (ak (aj _) _)) J' ⟨w5.heap.size,0,none⟩ 1 1 [.string y] J' J' (DI w5 9 [.string y] w5.heap.size rfl) (fun u hu=>by rw [List.mem_singleton.1 hu];rfl) O' O' auJ ?_;exact Zafx
  ·go_simp;refine hK _ _ (ak Qz (.cells #[.string y] 9)) ?_;try simp only [Act.put,pz]
   clear hK K;have hbB:=ak Qz (.cells #[.string y] 9);replace hrA:=mG hrA (ak (aj _) (.cells #[.string y] 9));refine bP 4 J' U' J' (fun K hK=>?_);refine qQ qw _ _ J' ((wn.drew.alloc (.cells #[] 9)).alloc (.cells #[.string y] 9)) wn.heap.size _ 0 [] hrA J' ⟨g,0,none⟩ jj cap (((s1).map Value.string)) J' auP (fun q u hu=>(hbB.cell (p:=(⟨g,0,none⟩:Addr).add q) auX).trans (HNC.out q u hu)) (fun u hu=>by obtain ⟨z0,_,rfl⟩:=List.mem_map.1 hu;rfl) O' O' auJ ?_;intro v5 w5 hown5 hg5 aaQ;have hb5:Below wn.heap.size wn w5:=Below.grown (hbB) hg5 auJ (fun q hq=>(hrA.lt q hq).1);refine hK _ _ hb5 ?_;try simp only [Act.put,pz]
   clear hK K;refine bP 10 J' U' J' (fun K hK=>?_);refine qQ qw _ _ J' w5 wn.heap.size v5 _ _ hown5 J' ⟨wn.heap.size+1,0,none⟩ 1 1 [.string y] J' J' (fun q u hu=>(World.cell?_of_block awP).trans ((DI (wn.drew.alloc (.cells #[] 9)) 9 [.string y] (wn.heap.size+1) S') q u hu)) (fun u hu=>by rw [List.mem_singleton.1 hu];rfl) O' O' auK ?_;exact Zaab
 ·go_simp;refine hK _ _ (ak hbx (.cells #[.string y] 9)) ?_;try simp only [Act.put,pz]
  clear hK K;have hbB:=ak hbx (.cells #[.string y] 9);refine bP 0 J' U' J' (fun K hK=>?_);go_simp;refine hK _ _ (ak hbB (.cells #[] 9)) ?_;try simp only [Act.put,pz]
  clear hK K;have Qz:=ak hbB (.cells #[] 9);have hrA:=vP (D9 (wn.drew.alloc (.cells #[.string y] 9)) 9 1 (wn.heap.size+1) S') (B':=wn.heap.size) O';refine bP 4 J' U' J' (fun K hK=>?_);refine qQ qw _ _ J' ((wn.drew.alloc (.cells #[.string y] 9)).alloc (.cells #[] 9)) wn.heap.size _ 0 [] hrA J' ⟨g,0,none⟩ jj cap (((s1).map Value.string)) J' auP (fun q u hu=>(Qz.cell (p:=(⟨g,0,none⟩:Addr).add q) auX).trans (HNC.out q u hu)) (fun u hu=>by obtain ⟨z0,_,rfl⟩:=List.mem_map.1 hu;rfl) O' O' auI ?_;intro v5 w5 hown5 hg5 aaQ;have hb5:Below wn.heap.size wn w5:=Below.grown (Qz) hg5 auI (fun q hq=>(hrA.lt q hq).1);refine hK _ _ hb5 ?_;try simp only [Act.put,pz]
  clear hK K;refine bP 10 J' U' J' (fun K hK=>?_);refine qQ qw _ _ J' w5 wn.heap.size v5 _ _ hown5 J' ⟨wn.heap.size,0,none⟩ 1 1 [.string y] J' J' (fun q u hu=>(World.cell?_of_block awQ).trans ((DI wn.drew 9 [.string y] wn.heap.size rfl) q u hu)) (fun u hu=>by rw [List.mem_singleton.1 hu];rfl) O' O' auK ?_
  exact Zaab):P:=h
theorem Zaeg {P:Prop} (h:P:=by
 go_wp2_with fail
 skip
 refine aF _ U' U' (aj _) ?_
 repeat (first
  | (apply aG
     case hw=>rfl
     simp only [Act.put,pz])
  | (apply aH
     case hw=>rfl
     case h =>exact Zaaz
     simp only [Act.put,pz]))
 exact Zaam):P:=h
theorem Zaeh {P:Prop} (h:P:=by
 try simp only [Bool.and_false,Bool.and_true,Bool.false_and,Bool.and_self] at hp
 have HN:=I' (gq hall.out hp);have Gn:=I' (gq hfresh.out hfr);clear hp;go_wp2_with fail
 clear q0 q1 q2 q3 q4 q5 q6 q7 q8;refine aF _ U' U' (aj _) ?_
 repeat (first
  | (apply aG
     case hw=>rfl
     simp only [Act.put,pz])
  | (apply aH
     case hw=>rfl
     case h =>exact Zaas
     simp only [Act.put,pz]))
 exact Zabj):P:=h
theorem Zaei {P:Prop} (h:P:=by
 refine hK _ _ hb7 ?_;try simp only [Act.put,pz]
 clear hK K;refine bP 11 J' U' J' (fun K hK=>?_);go_simp;refine hK _ _ hb7 ?_;try simp only [Act.put,pz]
 clear hK K;refine nR U' ?_
 exact HK _ _ ⟨g9,p9,_,_,_,_,_,_,_,_,_,_,aum,hb7,nK⟩):P:=h
theorem Zaej {P:Prop} (h:P:=by
 go_wp2_with fail
 skip
 refine aF _ U' U' (aj _) ?_
 repeat (first
  | (apply aG
     case hw=>rfl
     simp only [Act.put,pz])
  | (apply aH
     case hw=>rfl
     case h =>exact Zaa3
     simp only [Act.put,pz]))
 exact Zaau):P:=h
theorem Zaek {P:Prop} (h:P:=by
 have HN:=I' (gq hall.out hp);have Gn:=I' (gq hfresh.out hfr);clear hp;go_wp2_with fail
 clear q0 q1 q2 q3 q4 q5 q6 q7 q8;refine aF _ U' U' (aj _) ?_
 repeat (first
  | (apply aG
     case hw=>rfl
     simp only [Act.put,pz])
  | (apply aH
     case hw=>rfl
     case h =>exact Zaax
     simp only [Act.put,pz]))
 exact Zabm):P:=h
theorem Zael {P:Prop} (h:P:=by
 have RZ:=I' hO2;clear jX hO2 h h';go_wp2_with fail
 try dsimp only
 iterate 60 (first | go_step | skip)
 refine bodyPost_ret (v:=.tuple #[.agg #[.slice dG x.hosts.length bV,.slice dS x.au.length dJ,.int .i64 x.next,.int .i64 x.weights.pack,.int .i64 x.weights.spread,.int .i64 x.weights.soft],.int .i64 1]) (by simp [results,Tryz.results55,go_sem, *]) rfl ?_;rw [HF.out]
 first
  | refine ⟨[.slice dG x.hosts.length bV,.slice dS x.au.length dJ,.int .i64 x.next,.int .i64 x.weights.pack,.int .i64 x.weights.spread,.int .i64 x.weights.soft],G1,rfl,?_,?_⟩
  | refine ⟨[.slice dG x.hosts.length bV,.slice dS x.au.length dJ,.int .i64 x.next,.int .i64 x.weights.pack,.int .i64 x.weights.spread,.int .i64 x.weights.soft],rfl,⟨G1,?_⟩,?_⟩
 ·try dsimp only
  refine Own.mono (B:=w.heap.size+1+1+1) ?_ O';exact aus
 ·exact aui):P:=h
theorem Zaem {P:Prop} (h:P:=by
 refine hK _ _ hb7 ?_;try simp only [Act.put,pz]
 clear hK K;refine bP 12 J' U' J' (fun K hK=>?_);go_simp;refine hK _ _ hb7 ?_;try simp only [Act.put,pz]
 clear hK K;refine nR U' ?_
 exact HK _ _ ⟨g9,p9,_,_,_,_,_,_,_,_,_,_,_,aum,hb7,nK⟩):P:=h
theorem Zaen {P:Prop} (h:P:=by
 refine hK _ _ hb7 ?_;try simp only [Act.put,pz]
 clear hK K;refine bP 9 J' U' J' (fun K hK=>?_);go_simp;refine hK _ _ hb7 ?_;try simp only [Act.put,pz]
 clear hK K;refine nR U' ?_
 exact HK _ _ ⟨g9,p9,_,_,_,_,_,_,_,_,aum,hb7,nK⟩):P:=h
theorem Zaeo {P:Prop} (h:P:=by
 try simp only [Bool.and_false,Bool.and_true,Bool.false_and,Bool.and_self] at hp
 have HF:=I' (dW hlt hp);clear hp;go_wp2_with fail
 refine aF _ U' U' (aj _) ?_
 repeat (first
  | (apply aG
     case hw=>rfl
     simp only [Act.put,pz])
  | (apply aH
     case hw=>rfl
     case h =>exact Zaa1
     simp only [Act.put,pz]))
 exact Zaam):P:=h
theorem Zaep {P:Prop} (h:P:=by
 intro wq hq;have hcq:=(aB hq).1;have lJ:=(aB hq).2;have hlk:=HLK.out wq hq;go_simp
 first
  | exact ⟨hq,rfl⟩
  | exact ⟨aQ hq _,rfl⟩
  | (first | (refine (wH x.au[j+1].aS _ _ _ (aJ ku atW) hwk).mono ?_;rw [H1.out];rintro e w2 ⟨rfl,hb2⟩;exact ⟨rfl,aI hq hb2⟩) | (refine (jc x.au[j+1].seq 1 (x.next - 1) _).mono ?_;rw [LQ.out];rintro e w2 ⟨rfl,rfl⟩;exact ⟨rfl,hq⟩) | (refine (gK x _ _ x.au[j+1].on _ (aJ h atW) NV.out).mono ?_;rw [Hg.out];rintro e w2 ⟨rfl,hb2⟩;exact ⟨rfl,aI hq hb2⟩))
  | (simp only [↓IntWalk.iteOmega];exact ⟨hq,rfl⟩)):P:=h
theorem Zaeq {P:Prop} (h:P:=by
 intro wq hq;have hcq:=(aB hq).1;have lJ:=(aB hq).2;have hlk:=HLK.out wq hq;go_simp
 first
  | exact ⟨hq,rfl⟩
  | exact ⟨aQ hq _,rfl⟩
  | (first | (refine (wH x.au[0].aS _ _ _ (aJ ku atW) hwk).mono ?_;rw [H1.out];rintro e w2 ⟨rfl,hb2⟩;exact ⟨rfl,aI hq hb2⟩) | (refine (jc x.au[0].seq 1 (x.next - 1) _).mono ?_;rw [LQ.out];rintro e w2 ⟨rfl,rfl⟩;exact ⟨rfl,hq⟩) | (refine (gK x _ _ x.au[0].on _ (aJ h atW) NV.out).mono ?_;rw [Hg.out];rintro e w2 ⟨rfl,hb2⟩;exact ⟨rfl,aI hq hb2⟩))
  | (simp only [↓IntWalk.iteOmega];exact ⟨hq,rfl⟩)):P:=h
theorem Zaer {P:Prop} (h:P:=by
 intro wq hq;have hcq:=(aB hq).1;have lJ:=(aB hq).2;go_simp
 first
  | exact ⟨hq,rfl⟩
  | exact ⟨aQ hq _,rfl⟩
  | (first | (refine (yT x.au[j+1].aS _ _ _ (aJ ku atW) hwk).mono ?_;rw [H1.out];rintro e w2 ⟨rfl,hb2⟩;exact ⟨rfl,aI hq hb2⟩) | (refine (kH x.au[j+1].seq 1 (x.next - 1) _).mono ?_;rw [LQ.out];rintro e w2 ⟨rfl,rfl⟩;exact ⟨rfl,hq⟩) | (refine (gQ x _ _ x.au[j+1].on _ (aJ h atW) NV.out).mono ?_;rw [Hg.out];rintro e w2 ⟨rfl,hb2⟩;exact ⟨rfl,aI hq hb2⟩))
  | (simp only [↓IntWalk.iteOmega];exact ⟨hq,rfl⟩)):P:=h
theorem Zaes {P:Prop} (h:P:=by
 intro wq hq;have hcq:=(aB hq).1;have lJ:=(aB hq).2;go_simp
 first
  | exact ⟨hq,rfl⟩
  | exact ⟨aQ hq _,rfl⟩
  | (first | (refine (yT x.au[0].aS _ _ _ (aJ ku atW) hwk).mono ?_;rw [H1.out];rintro e w2 ⟨rfl,hb2⟩;exact ⟨rfl,aI hq hb2⟩) | (refine (kH x.au[0].seq 1 (x.next - 1) _).mono ?_;rw [LQ.out];rintro e w2 ⟨rfl,rfl⟩;exact ⟨rfl,hq⟩) | (refine (gQ x _ _ x.au[0].on _ (aJ h atW) NV.out).mono ?_;rw [Hg.out];rintro e w2 ⟨rfl,hb2⟩;exact ⟨rfl,aI hq hb2⟩))
  | (simp only [↓IntWalk.iteOmega];exact ⟨hq,rfl⟩)):P:=h
theorem Zaet {P:Prop} (h:P:=by
 rw [HF.out];first | refine ⟨[.slice dG x.hosts.length bV,.slice dS x.au.length dJ,.int .i64 x.next,.int .i64 x.weights.pack,.int .i64 x.weights.spread,.int .i64 x.weights.soft],G1,rfl,?_,?_⟩ | refine ⟨[.slice dG x.hosts.length bV,.slice dS x.au.length dJ,.int .i64 x.next,.int .i64 x.weights.pack,.int .i64 x.weights.spread,.int .i64 x.weights.soft],rfl,⟨G1,?_⟩,?_⟩
 ·try dsimp only
  refine Own.mono (B:=w.heap.size+1+1+1) ?_ O';exact (by repeat (first | with_reducible exact HO9.out | with_reducible refine Own.setCell ?_ atX _))
 ·exact aui):P:=h
theorem Zaeu {P:Prop} (h:P:=by
 refine aN ?_;intro wn hn;replace hn:=hn.out;obtain ⟨hcn,hfn⟩:=ay hn;have hzn:w.heap.size < wn.heap.size:=sq hn.size;have hyn:b' < wn.heap.size:=sq hn.size;try (have hxn:wr.heap.size < wn.heap.size:=sq hn.size)
 exact Zaf3):P:=h
theorem Zaev {P:Prop} (h:P:=by
 refine aN ?_;intro wn hn;replace hn:=hn.out;obtain ⟨hcn,hfn⟩:=ay hn;have hzn:w.heap.size < wn.heap.size:=sq hn.size;have hyn:b < wn.heap.size:=sq hn.size;try (have hxn:wr.heap.size < wn.heap.size:=sq hn.size)
 exact Zaf3):P:=h
theorem Zaew {P:Prop} (h:P:=by
 intro wq hq;have hcq:=(aB hq).1;have lJ:=(aB hq).2;go_simp
 first
  | exact ⟨hq,rfl⟩
  | exact ⟨aQ hq _,rfl⟩
  | (refine (tY x.hosts[j+1] _ _ _ (aJ hr3 atW) hwk).mono ?_;rw [H1.out];rintro e w6 ⟨rfl,hb6⟩;exact ⟨rfl,aI hq hb6⟩)
  | (simp only [↓IntWalk.iteOmega];exact ⟨hq,rfl⟩)):P:=h
theorem Zaex {P:Prop} (h:P:=by
 refine hK _ _ hb7 ?_;try simp only [Act.put,pz]
 clear hK K;refine bP 8 J' U' J' (fun K hK=>?_);go_simp;refine hK _ _ hb7 ?_;try simp only [Act.put,pz]
 clear hK K;refine nR U' ?_
 exact HK _ _ ⟨g9,p9,_,_,_,_,_,_,_,aum,hb7,nK⟩):P:=h
theorem Zaey {P:Prop} (h:P:=by
 intro wq hq;have hcq:=(aB hq).1;have lJ:=(aB hq).2;go_simp
 first
  | exact ⟨hq,rfl⟩
  | exact ⟨aQ hq _,rfl⟩
  | (fail)
  | (simp only [↓IntWalk.iteOmega];exact ⟨hq,rfl⟩)):P:=h
theorem Zaez {P:Prop} (h:P:=by
 intro wq hq;have hcq:=(aB hq).1;have lJ:=(aB hq).2;go_simp
 first
  | exact ⟨hq,rfl⟩
  | exact ⟨aQ hq _,rfl⟩
  | (refine (tY x.hosts[0] _ _ _ (aJ hr3 atW) hwk).mono ?_;rw [H1.out];rintro e w6 ⟨rfl,hb6⟩;exact ⟨rfl,aI hq hb6⟩)
  | (simp only [↓IntWalk.iteOmega];exact ⟨hq,rfl⟩)):P:=h
theorem Zae0 {P:Prop} (h:P:=by
 exact (by repeat (first | with_reducible exact HO9.out | with_reducible refine Own.setCell ?_ atX _))):P:=h
theorem Zae1 {P:Prop} (h:P:=by
 go_wp2_with fail
 refine aF wr U' U' (aj _) ?_
 repeat (first
  | (apply aG
     case hw=>rfl
     simp only [Act.put,pz])
  | (apply aH
     case hw=>rfl
     case h =>exact Zabq
     simp only [Act.put,pz]))
 exact Zabg):P:=h
theorem Zae2 {P:Prop} (h:P:=by
 refine ⟨⟨k+1,g8,p8,O',N',rfl,?_,?_⟩,by simp [intOf];omega⟩
 ·rw [Jf.out,HI.out];have:=vP Le (B':=w1.heap.size) HBN.out.size;exact Zab8
 ·exact Zab1):P:=h
theorem Zae3 {P:Prop} (h:P:=by
 try dsimp only
 refine Own.mono (B:=w.heap.size+1+1+1) ?_ O'
 exact (by repeat (first | with_reducible exact HOW.out | with_reducible refine Own.setCell ?_ atX _ | with_reducible refine ownNeA ?_ HFG.out))):P:=h
theorem Zae4 {P:Prop} (h:P:=by
 go_wp2_with fail
 refine aF wr U' U' (aj _) ?_
 repeat (first
  | (apply aG
     case hw=>rfl
     simp only [Act.put,pz])
  | (apply aH
     case hw=>rfl
     case h =>exact Zaaj
     simp only [Act.put,pz]))
 exact Zabg):P:=h
theorem Zae5 {P:Prop} (h:P:=by
 intro wq hq;have hcq:=(aB hq).1;have lJ:=(aB hq).2;go_simp
 first
  | exact ⟨hq,rfl⟩
  | exact ⟨aQ hq _,rfl⟩
  | (refine (tZ x.hosts[j+1] _ _ _ (aJ hr3 atW) hwk).mono ?_;rw [H1.out];rintro e w6 ⟨rfl,hb6⟩;exact ⟨rfl,aI hq hb6⟩)
  | (simp only [↓IntWalk.iteOmega];exact ⟨hq,rfl⟩)):P:=h
theorem Zae6 {P:Prop} (h:P:=by
 intro wq hq;have hcq:=(aB hq).1;have lJ:=(aB hq).2;go_simp
 first
  | exact ⟨hq,rfl⟩
  | exact ⟨aQ hq _,rfl⟩
  | (refine (tZ x.hosts[0] _ _ _ (aJ hr3 atW) hwk).mono ?_;rw [H1.out];rintro e w6 ⟨rfl,hb6⟩;exact ⟨rfl,aI hq hb6⟩)
  | (simp only [↓IntWalk.iteOmega];exact ⟨hq,rfl⟩)):P:=h
theorem Zae7 {P:Prop} (h:P:=by
 clear hs;go_wp2_with fail
 refine aF wr U' U' (aj _) ?_
 repeat (first
  | (apply aG
     case hw=>rfl
     simp only [Act.put,pz])
  | (apply aH
     case hw=>rfl
     case h =>exact Zaaj
     simp only [Act.put,pz]))
 exact Zad5):P:=h
theorem Zae8 {P:Prop} (h:P:=by
 clear hb6 HC4 HO4 HU4;dsimp only at *;cases b
 ·go_wp2;exact ⟨⟨xs,A',c',G,k+1,rfl,N',O',HO5.out,Du,HC5.out,HU5.out,HRM5⟩,by simp only [intOf];omega⟩
 ·go_wp2
  exact ⟨⟨u,A6,c6,G6,k+1,rfl,N',O',iD.out,I' (HOK.out rfl),HC5.out,HU5.out,I' ((Jg.out rfl).mono O')⟩,by simp only [intOf];omega⟩):P:=h
theorem Zae9 {P:Prop} (h:P:=by
 go_enter Tryz.func156,Tryz.ntmps156;go_wp2_with fail
 refine (rX x.key _ hks).mono ?_
 exact Zaaw):P:=h
theorem Zafa {P:Prop} (h:P:=by
 go_enter Tryz.func177,Tryz.ntmps177;go_wp2_with fail
 refine (qK x.key _ hks).mono ?_
 exact Zaaw):P:=h
theorem Zafb {P:Prop} (h:P:=by
 rw [HF.out];refine ⟨[.slice dG x.hosts.length bV,.slice dS x.au.length dJ,.int .i64 x.next,.int .i64 x.weights.pack,.int .i64 x.weights.spread,.int .i64 x.weights.soft],G1,rfl,?_,?_⟩
 ·try dsimp only
  refine Own.mono (B:=w.heap.size+1+1+1) ?_ O';exact Zabs
 ·exact aui):P:=h
theorem Zafc {P:Prop} (h:P:=by
 intro v7 w7 nK Ua ab7;rw [show 0+0 = 0 by omega,List.nil_append] at nK;obtain ⟨g9,p9,hv7,hgb,hgp,hgl⟩:=wW nK O';subst hv7;have hb7:Below wn.heap.size wn w7:=Below.grown (hb5) Ua auK (fun q hq=>(hown5.lt q hq).1)
 exact Zaa8):P:=h
theorem Zafd {P:Prop} (h:P:=by
 intro v7 w7 nK Ua ab7;rw [show 0+0 = 0 by omega,List.nil_append] at nK;obtain ⟨g9,p9,hv7,hgb,hgp,hgl⟩:=wW nK O';subst hv7;have hb7:Below wn.heap.size wn w7:=Below.grown (hb5) Ua auK (fun q hq=>(hown5.lt q hq).1)
 exact Zaa6):P:=h
theorem Zafe {P:Prop} (h:P:=by
 cases he2:GX b p.mem with
 | none =>rw [show qG b p.mem = 9223372036854775807 by unfold qG;rw [he2];rfl] at hS2 hm2;exact Zaaf
 | some s2 =>
   rw [show qG b p.mem = s2 by unfold qG;rw [he2];rfl] at hS2 hm2
   exact Zaaf):P:=h
theorem Zaff {P:Prop} (h:P:=by
 exact ⟨[.slice kM R.hosts.length kN,.slice ny R.au.length nC,.int .i64 R.next,.int .i64 R.weights.pack,.int .i64 R.weights.spread,.int .i64 R.weights.soft],G,rfl,(HO.out.only OB (fun b hb=>by have:=HO.out.base b hb;omega)).mono (B':=w.heap.size) O',ext_only hb2 OB O'⟩):P:=h
theorem Zafg {P:Prop} (h:P:=by
 exact (by repeat (first | with_reducible exact HT8.out.below | with_reducible refine aC ?_ atX _))):P:=h
theorem Zafh {P:Prop} (h:P:=by
 have hj:=(List.getElem?_eq_some_iff.1 hu).1;rw [← ht,List.getElem?_take] at hu;split at hu
 ·simpa using hu
 ·cases hu):P:=h
theorem Zafi {P:Prop} (h:P:=by
 refine ⟨⟨k+1,N+1,g8,p8,O',O',N',rfl,I' ?_,?_,?_⟩,by simp [intOf];omega⟩
 ·exact Zacl
 ·rw [Jf.out,HI.out];have:=vP Le (B':=w.heap.size) HBN.out.size;exact Zab8
 ·exact Zab1):P:=h
theorem Zafj {P:Prop} (h:P:=by
 try simp only [Bool.and_false,Bool.and_true,Bool.false_and,Bool.and_self] at hp
 have HF:=I' (jP hlt hp);clear hp
 exact Zaak):P:=h
theorem Zafk {P:Prop} (h:P:=by
 rcases Nat.lt_or_ge g w.heap.size with hlt | hge
 ·exact hlt
 ·rw [Array.getElem?_eq_none hge] at hh;cases hh):P:=h
theorem Zafl {P:Prop} (h:P:=by
 have HRR:=I' hr;clear hr;go_wp2_with fail
 refine HOK.out.mono ?_
 exact Zab2):P:=h
theorem Zafm {P:Prop} (h:P:=by
 try dsimp only
 refine Own.mono (B:=w.heap.size+1+1) ?_ O';have hO:=HO.out
 exact (by repeat (first | with_reducible exact hO | with_reducible refine Own.setCell ?_ atX _))):P:=h
theorem Zafn {P:Prop} (h:P:=by
 refine ⟨⟨k+1,N+1,g8,p8,O',O',N',rfl,I' ?_,?_,?_⟩,by simp [intOf];omega⟩
 ·exact Zacl
 ·exact Zade
 ·exact Zab1):P:=h
theorem Zafo {P:Prop} (h:P:=by
 refine ⟨⟨k+1,N+1,g8,p8,O',O',N',rfl,I' ?_,?_,?_⟩,by simp [intOf];omega⟩
 ·exact Zacl
 ·exact Zadf
 ·exact Zab1):P:=h
theorem Zafp {P:Prop} (h:P:=by
 refine ⟨⟨k+1,N+1,g8,p8,O',O',N',rfl,I' ?_,?_,?_⟩,by simp [intOf];omega⟩
 ·exact Zacl
 ·exact Zadh
 ·exact Zab1):P:=h
theorem Zafq {P:Prop} (h:P:=by
 obtain ⟨R,cd⟩:=RR;dsimp only at HS ⊢;go_enter Tryz.func11,Tryz.ntmps11;go_wp2_with fail
 refine (HS.out _ _ _ (aZ h atT)).mono ?_
 exact Zaap):P:=h
theorem Zafr {P:Prop} (h:P:=by
 refine aN ?_;intro wn hn;replace hn:=hn.out;simp only [HQ.out]
 exact Zacs):P:=h
theorem Zafs {P:Prop} (h:P:=by
 have HF:=I' (show oH nm x p = 4 by rw [HAT.out,if_neg (by simp [hS]),if_neg hu,if_neg (by simp [hf1]),if_pos hf2])
 exact Zaat):P:=h
theorem Zaft {P:Prop} (h:P:=by
 rcases Nat.lt_or_ge j k with h9 | h9
 ·exact HW40.out j hj h9
 ·have:j = k:=by omega
  subst this;exact hv40):P:=h
theorem Zafu {P:Prop} (h:P:=by
 rw [ahV.out];have:=vP Le (B':=w.heap.size+1) (by have:=HBO.out.size;have:=HBW.out.size;omega)
 exact Zab8):P:=h
theorem Zafv {P:Prop} (h:P:=by
 exact (by repeat (first | with_reducible exact hO | with_reducible refine Own.setCell ?_ atX _ | with_reducible refine Own.alloc ?_ _))):P:=h
theorem Zafw {P:Prop} (h:P:=by
 by_cases hc:cap = jj
 ·exact Zac9
 ·exact ⟨⟨g,jj,none⟩,by simp [hc],rfl,fun q u hu=>by simp at hu⟩):P:=h
theorem Zafx {P:Prop} (h:P:=by
 intro v7 w7 nK Ua ab7;rw [show 0+jj = jj by omega,List.nil_append] at nK;obtain ⟨g9,p9,hv7,hgb,hgp,hgl⟩:=wW nK O';subst hv7;have hb7:Below wn.heap.size wn w7:=Below.grown (hbB) Ua auJ (fun q hq=>(hown5.lt q hq).1)
 exact Zaae):P:=h
theorem Zafy {P:Prop} (h:P:=by
 intro v7 w7 nK Ua ab7;rw [show 0+jj = jj by omega,List.nil_append] at nK;obtain ⟨g9,p9,hv7,hgb,hgp,hgl⟩:=wW nK O';subst hv7;have hb7:Below wn.heap.size wn w7:=Below.grown (hb5) Ua auK (fun q hq=>(hown5.lt q hq).1)
 exact Zaei):P:=h
theorem Zafz {P:Prop} (h:P:=by
 intro v7 w7 nK Ua ab7;rw [show 0+jj = jj by omega,List.nil_append] at nK;obtain ⟨g9,p9,hv7,hgb,hgp,hgl⟩:=wW nK O';subst hv7;have hb7:Below wn.heap.size wn w7:=Below.grown (hb5) Ua auK (fun q hq=>(hown5.lt q hq).1)
 exact Zaex):P:=h
theorem Zaf0 {P:Prop} (h:P:=by
 intro v7 w7 nK Ua ab7;rw [show 0+k = k by omega,List.nil_append] at nK;obtain ⟨g9,p9,hv7,hgb,hgp,hgl⟩:=wW nK O';subst hv7;have hb7:Below wn.heap.size wn w7:=Below.grown (hb5) Ua auK (fun q hq=>(hown5.lt q hq).1)
 exact Zaem):P:=h
theorem Zaf1 {P:Prop} (h:P:=by
 intro v7 w7 nK Ua ab7;rw [show 0+k = k by omega,List.nil_append] at nK;obtain ⟨g9,p9,hv7,hgb,hgp,hgl⟩:=wW nK O';subst hv7;have hb7:Below wn.heap.size wn w7:=Below.grown (hb5) Ua auK (fun q hq=>(hown5.lt q hq).1)
 exact Zaen):P:=h
theorem Zaf2 {P:Prop} (h:P:=by
 try simp only [Bool.and_false,Bool.and_true,Bool.false_and,Bool.and_self] at hp
 have HF:=I' (jP hlt hp);clear hp
 exact Zaeg):P:=h
theorem Zaf3 {P:Prop} (h:P:=by
 go_wp2;go_ret
 exact ⟨by rw [HF.out];rfl,atS⟩):P:=h
theorem sq {a b:Nat} (hs:a≤b) {P:Prop} (h:a≤b→P:=by intro this;(try simp at this);omega):P:=h hs
theorem pz:(∀{α:Type} (a:List α) (i:Nat) (v:α),a.toArray.setIfInBounds i v = (a.set i v).toArray)∧(∀{α:Type} (x y:α) (l:List α),(x :: l).set 0 y = y :: l)∧(∀{α:Type} (x y:α) (l:List α) (n:Nat),(x :: l).set (n+1) y = x :: l.set n y):=⟨fun _ _ _=>List.setIfInBounds_toArray ..,fun _ _ _=>rfl,fun _ _ _ _=>rfl⟩
theorem atS {P:Prop} (h:P:=by repeat (first | with_reducible exact aj _ | with_reducible assumption | with_reducible refine ak ?_ _ | with_reducible refine ah ?_ (by assumption))) : P := h
theorem atT {P:Prop} (h:P:=by repeat (first | with_reducible exact aj _ | with_reducible assumption | with_reducible refine ak ?_ _ | with_reducible refine aA ?_ | with_reducible refine ah ?_ (by assumption))) : P := h
theorem atV {P:Prop} (h:P:=by first | exact hq | exact hq.out) : P := h
theorem atW {P:Prop} (h:P:=by repeat (first | with_reducible exact hq | with_reducible exact hq.out | with_reducible exact aj _ | with_reducible assumption | with_reducible refine ak ?_ _ | with_reducible refine ah ?_ atV | with_reducible refine ah ?_ (by assumption))) : P := h
theorem atX {P:Prop} (h:P:=by dsimp only;omega) : P := h
theorem atZ {P:Prop} (h:P:=by decide +kernel) : P := h
theorem at6 {P:Prop} (h:P:=by unfold maxLen;omega) : P := h
theorem aua {P:Prop} (h:P:=by simp [World.setCell]) : P := h
theorem aub {P:Prop} (h:P:=by simp [Value.oneCell']) : P := h
theorem aud {P:Prop} (h:P:=by first | exact hbx | exact aj _) : P := h
theorem aue {P:Prop} (h:P:=by first | rfl | (simp;rfl)) : P := h
theorem auf {P:Prop} (h:P:=by unfold Func.isWrapper;first | (rw [if_pos atZ];kernel_rfl) | (rw [if_neg atZ];exact ⟨rfl,rfl⟩)) : P := h
theorem aug {P:Prop} (h:P:=by first | assumption | (unfold I64;omega)) : P := h
theorem aui {P:Prop} (h:P:=by repeat (first | with_reducible exact aj _ | with_reducible assumption | with_reducible refine aC ?_ atX _ | with_reducible refine ak ?_ _ | with_reducible refine aA ?_ | with_reducible refine ah ?_ (by assumption))) : P := h
theorem auj {P:Prop} (h:P:=by first | exact aj _ | assumption) : P := h
theorem aum {P:Prop} (h:P:=by simp only [Act.put,pz];rfl) : P := h
theorem aun {P:Prop} (h:P:=by show w.heap.size+1+1 < _;omega) : P := h
theorem auq {P:Prop} (h:P:=by intro e;have:=hr _ e.symm;omega) : P := h
theorem aus {P:Prop} (h:P:=by repeat (first | with_reducible exact RZ.out | with_reducible refine Own.setCell ?_ atX _)) : P := h
theorem aut {P:Prop} (h:P:=by first | exact hq | exact ah (ak (aj _) _) hq) : P := h
theorem auG {P:Prop} (h:P:=by unfold I64;omega) : P := h
theorem auI {P:Prop} (h:P:=by have:=(Qz).size;omega) : P := h
theorem auJ {P:Prop} (h:P:=by have:=(hbB).size;omega) : P := h
theorem auK {P:Prop} (h:P:=by have:=(hb5).size;omega) : P := h
theorem auP {P:Prop} (h:P:=by rw [List.length_map,HJ.out,Nat.mul_one]) : P := h
theorem auQ {P:Prop} (h:P:=by first | exact Nat.le_refl _ | (dsimp only;omega)) : P := h
theorem auR {P:Prop} (h:P:=by dsimp only;have:=HS.out.lt;omega) : P := h
theorem auS {P:Prop} (h:P:=by repeat (first | with_reducible exact hBr | with_reducible exact aj _ | with_reducible assumption | with_reducible refine ak ?_ _ | with_reducible refine ah ?_ (by assumption))) : P := h
theorem auT {P:Prop} (h:P:=by first | exact ah hBr hq | exact ah (ak hBr _) hq | exact ah hBr hq.out | exact ah (ak hBr _) hq.out) : P := h
theorem auW {P:Prop} (h:P:=by obtain ⟨d0,hs⟩:=fF hA;rw [hs];rfl) : P := h
theorem auX {P:Prop} (h:P:=by rw [Addr.add_lit];exact hgn) : P := h
theorem au0 {P:Prop} (h:P:=by first | rfl | go_num) : P := h
theorem au1 {P:Prop} (h:P:=by rw [iC hlt hlt',Heq.out,he];rfl) : P := h
theorem au2 {P:Prop} (h:P:=by rw [List.take_succ_eq_append_getElem hlt,J3];exact hown5) : P := h
theorem au3 {P:Prop} (h:P:=by have e1:=U3.size;have e2:=hn.size;(try simp at e2);omega) : P := h
theorem au4 {P:Prop} (h:P:=by dsimp only;first | omega | (have:=S2'.lt;omega)) : P := h
theorem au5 {P:Prop} (h:P:=by repeat (first | with_reducible exact HS.out.below | with_reducible refine aC ?_ auQ _)) : P := h
theorem ave {P:Prop} (h:P:=by first | exact hq | exact hq.out | exact ah (ak (aj _) _) hq) : P := h
theorem avf {P:Prop} (h:P:=by simp [Value.ownBlock]) : P := h
theorem avg {P:Prop} (h:P:=by have:=hF y hy;dsimp only;omega) : P := h
theorem avp {P:Prop} (h:P:=by simpa using h) : P := h
theorem avq {P:Prop} (h:P:=by first | exact Nat.le_refl _ | (simp [World.setCell];done) | (simp [World.setCell];omega)) : P := h
theorem avr {P:Prop} (h:P:=by dsimp only;first | omega | (have:=S3'.lt;omega)) : P := h
theorem avs {P:Prop} (h:P:=by have:=h.below.size;omega) : P := h
theorem avu {P:Prop} (h:P:=by unfold Cls;with_reducible exact (ak hbx0 _)) : P := h
theorem avv {P:Prop} (h:P:=by simpa using hi) : P := h
theorem avz {P:Prop} (h:P:=by rw [HE.out];simp) : P := h
theorem avD {P:Prop} (h:P:=by rw [iC hlt hlt',Heq.out];simpa using hne) : P := h
theorem avI {P:Prop} (h:P:=by rw [List.length_take];omega) : P := h
theorem avJ {P:Prop} (h:P:=by have:=hbl.size;(try simp);omega) : P := h
theorem avK {P:Prop} (h:P:=by have:=hbl.size;simp;omega) : P := h
theorem avQ {P:Prop} (h:P:=by rw [List.length_map,HJ.out];omega) : P := h
theorem avR {P:Prop} (h:P:=by have:=hb7.size;omega) : P := h
theorem avU {P:Prop} (h:P:=by have:=hg.size;simpa using this) : P := h
theorem avV {P:Prop} (h:P:=by unfold onP;rw [hs1,hs2]) : P := h
theorem avW {P:Prop} (h:P:=by rw [Xi hlt HP.out];exact hcs) : P := h
theorem avX {P:Prop} (h:P:=by unfold Em;rw [hnx];simp) : P := h
theorem avY {P:Prop} (h:P:=by unfold Em;rw [hwt];simp) : P := h
theorem avZ {P:Prop} (h:P:=by unfold Em;simp [hh2]) : P := h
theorem av1 {P:Prop} (h:P:=by unfold Em;simp [hh1]) : P := h
theorem av2 {P:Prop} (h:P:=by rw [sG hlt,hsn];rfl) : P := h
theorem av3 {P:Prop} (h:P:=by dsimp only;first | omega | (have:=S1'.lt;omega)) : P := h
theorem av4 {P:Prop} (h:P:=by repeat (first | with_reducible exact HO1.out | with_reducible refine Own.setCell ?_ auR _)) : P := h
theorem av5 {P:Prop} (h:P:=by repeat (first | with_reducible exact RZ.out | with_reducible refine Own.setCell ?_ auR _)) : P := h
theorem av6 {P:Prop} (h:P:=by repeat (first | with_reducible exact HO.out | with_reducible refine Own.setCell ?_ atX _)) : P := h
theorem awh {P:Prop} (h:P:=by unfold KF;rw [hr1]) : P := h
theorem awy {P:Prop} (h:P:=by rw [h] at hr;cases hr) : P := h
theorem awG {P:Prop} (h:P:=by rw [cell_of_row _ _ _ _ _ _ (heap_alloc_new wr _)];rfl) : P := h
theorem awH {P:Prop} (h:P:=by rw [List.length_map];exact hl) : P := h
theorem awK {P:Prop} (h:P:=by rw [YC hlt HP.out];exact hcs) : P := h
theorem awL {P:Prop} (h:P:=by have:=hb5.size;simp;omega) : P := h
theorem awM {P:Prop} (h:P:=by intro e;have:=hr _ e.symm;have:=hF y hy;omega) : P := h
theorem awN {P:Prop} (h:P:=by have:=hbl.size;have:=hbn.size;(try simp);omega) : P := h
theorem awO {P:Prop} (h:P:=by first | exact hbor | (dsimp only;omega)) : P := h
theorem awP {P:Prop} (h:P:=by rw [Addr.add_lit];exact hg5.block (wn.heap.size+1) (by simp) avf) : P := h
theorem awQ {P:Prop} (h:P:=by rw [Addr.add_lit];exact (hg5.block wn.heap.size (by simp;omega) avf).trans (heap_alloc_old _ _ (by simp))) : P := h
theorem awR {P:Prop} (h:P:=by have:=HBN.out.size;have:=hb7.size;omega) : P := h
theorem awS {P:Prop} (h:P:=by rw [List.length_append,HJ.out];rfl) : P := h
theorem awT {P:Prop} (h:P:=by rw [List.length_map,HKL.out,Nat.mul_one]) : P := h
theorem ay {W w1:World} (hb:Below W.heap.size W w1):(∀b o,b < W.heap.size→w1.cell? ⟨b,o,none⟩ = W.cell? ⟨b,o,none⟩)∧(∀b o,b < W.heap.size→w1.frozen? ⟨b,o,none⟩ = W.frozen? ⟨b,o,none⟩) :=
 ⟨fun b o h=>hb.cell (p:=⟨b,o,none⟩) h,fun b o h=>hb.frozen (p:=⟨b,o,none⟩) h⟩
theorem aj (w:World):Below w.heap.size w w:=Below.refl _ _
theorem ah {w w1 w2:World} (h:Below w.heap.size w w1) (k:Below w1.heap.size w1 w2):Below w.heap.size w w2:=h.trans (k.mono h.size)
theorem ak {w w1:World} (h:Below w.heap.size w w1) (o:Obj):Below w.heap.size w (w1.alloc o):=h.alloc h.size o
theorem aA {w w1:World} (h:Below w.heap.size w w1):Below w.heap.size w w1.drew:=h.drew
theorem aC {w w1:World} (h:Below w.heap.size w w1) {p:Addr} (hp:w.heap.size≤p.block) (u:Value):Below w.heap.size w (w1.setCell p u):=h.setCell hp u
section
variable {H:Type} {enc:TypeId × Value→H} {P:Program}
theorem Zi {W W':World} (hl:laidOutB P = true) (hb:Below W.heap.size W W'):∀(ts:List TypeId) (vs:List Value) (ds:List (DataW H)) (ps:List MemPlace) (sp:Nat→Bool),
 (∀t∈ts,P.readableRec t = true∧t < P.types.size)→(∀x∈ps,x.block < W.heap.size)→(∀x∈ps,sp x.block = true) →
 DataW.TrodAll enc P W 0 (fun _=>true) true ts vs ds ps→DataW.TrodAll enc P W' 0 sp true ts vs ds ps
 | [],[],[],ps,sp,_,_,_,h=>h
 | t :: ts,v :: vs,d :: ds,ps,sp,ht,hlt,hsp,h=>by
   obtain ⟨p,q,h1,h2,rfl⟩:=h;refine ⟨p,q,?_,Zi hl hb ts vs ds q sp (fun t' h'=>ht t' (List.mem_cons_of_mem _ h')) (fun x hx=>hlt x (List.mem_append_right _ hx)) (fun x hx=>hsp x (List.mem_append_right _ hx)) h2,rfl⟩;obtain ⟨hr,hs⟩:=ht t (List.mem_cons_self ..);exact WideElems.Trod_stays hl hr hs h1 (fun x hx=>hb.same (hlt x (List.mem_append_left _ hx))) (fun x hx=>hsp x (List.mem_append_left _ hx))
 | [],_ :: _,_,_,_,_,_,_,h=>by simp [DataW.TrodAll] at h
 | [],[],_ :: _,_,_,_,_,_,h=>by simp [DataW.TrodAll] at h
 | _ :: _,[],_,_,_,_,_,_,h=>by simp [DataW.TrodAll] at h
 | _ :: _,_ :: _,[],_,_,_,_,_,h=>by simp [DataW.TrodAll] at h
theorem nO {f:Func} {s:ChangeSpec} {apart fresh handsOn:Bool} {W W':World} {args:Array Value} {ds gs:List (DataW H)} {before:List MemPlace} {tb:TypeId}
 (hl:laidOutB P = true) (hr:∀t∈f.params.toList,P.readableRec t = true∧t < P.types.size) (htb:f.resultTypes = #[tb]) (hub:P.underlying tb = some .bool)
 (hvars:s.vars = []) (hfn:s.fn H ds = { results:=[.lit (.bool true)],args:=ds,vars:=[] })
 (hW:DataW.Whole enc P f.params.toList s.vars apart W args.toList ds gs before) (hb:Below W.heap.size W W') :
 s.post enc P f apart fresh handsOn false W args (.bool true) W':=by
 have hlt:∀p∈before,p.block < W.heap.size:=fun p hp=>hW.lt p hp;have hW0:=hW;obtain ⟨p,q,hA,hV,rfl,hz,hn⟩:=hW0;rw [hvars] at hV;obtain ⟨rfl,rfl⟩:=trodVars_none hV;simp only [List.append_nil] at *;have hres:∀(b:Nat) (sp:Nat→Bool) (hd:Bool),DataW.TrodAll enc P W' b sp hd f.resultTypes.toList ((Value.bool true).resultList f.resultTypes.size) (s.fn H (ds++[])).results []:=by intro b sp hd;rw [htb,List.append_nil,hfn];exact trodAll_cons_mk (shut_bool hub _) trodAll_mk0
 have hargs:∀sp:Nat→Bool,(∀x∈p,sp x.block = true)→DataW.TrodAll enc P W' 0 sp true f.params.toList args.toList (s.fn H (ds++[])).args p:=by intro sp hsp;rw [List.append_nil,hfn];exact Zi hl hb _ _ _ _ _ hr hlt hsp hA
 have hvs:∀sp:Nat→Bool,DataW.TrodVars enc P W' sp s.vars (s.fn H (ds++[])).vars []:=by intro sp;rw [List.append_nil,hfn,hvars];rfl
 have hold:∀x∈p,(fun b=>decide (b < W.heap.size)) x.block = true:=fun x hx=>by simpa using hlt x hx
 refine ⟨ds,[],p,[],p,[],hW,hres _ _ _,hargs _ hold,hvs _,World.keptBut_mono (fun x hx=>⟨hx,by simpa using hx⟩) (hb.frame (·∈p)),fun hag=>by cases hag⟩
end
end Go.Proofs.YtkjeocdobidadaaGreat
