/- The frame of every law's proof: if the call returns true and leaves what was there as it was, the given post holds. No condition. -/
import Derived.Test.YtajbbmembionpaaGreatRows
import Derived.Lib.Hide
import Derived.BigQuiet
import Derived.WalkSpells
import Derived.Deep.AppendLies
import Derived.Deep.Slices
import Derived.Handy
namespace Go.Proofs.YtajbbmembionpaaGreat
open Go.ChangeShapes Go.WideShapes Go.ChangeAt Go.RowKit
set_option maxRecDepth 100000
theorem I {P:Prop} (h:P):Hid P:=Lib.hid h
theorem J {P:Prop} (h:P:=by omega):P:=h
theorem M {P:Prop} (h:P:=by rfl):P:=h
theorem U' {P:Prop} (h:P:=by kernel_rfl):P:=h
theorem S' {P:Prop} (h:P:=by simp):P:=h
theorem N' {P:Prop} (h:P:=by go_num):P:=h
theorem Y' {P:Prop} (h:P:=by assumption):P:=h
theorem vG {P:Prop} (h:P:=by
 intro HK;have ba:Below wn.heap.size wn wn.drew:=aA (aj _);refine aX 1 _ M U' H' ba W' ?_;try simp only [Act.put,pz]
 refine aX 2 _ M U' H' ba W' ?_;try simp only [Act.put,pz]
 refine aX 3 _ M U' H' ba W' ?_;try simp only [Act.put,pz]
 refine aX 5 _ M U' H' ba W' ?_;try simp only [Act.put,pz]
 refine aX 6 _ M U' H' ba W' ?_;try simp only [Act.put,pz]
 refine aX 7 _ M U' H' ba W' ?_;try simp only [Act.put,pz]
 refine aX 8 _ M U' H' ba W' ?_;try simp only [Act.put,pz]
 refine D7 0 9 M M U' M M (fun K hK=>?_) (fun K hK=>?_)
 ·go_simp;refine hK _ _ (ak ba (.cells #[] 9)) ?_;try simp only [Act.put,pz]
  clear hK K;have Qz:=ak ba (.cells #[] 9);have KI:=D9 wn.drew 9 1 wn.heap.size rfl;refine D7 4 9 M M U' M M (fun K hK=>?_) (fun K hK=>?_)
  ·refine qQ qw _ _ M (wn.drew.alloc (.cells #[] 9)) wn.heap.size _ 0 [] KI M ⟨g,0,none⟩ jj ar ((s1.map Value.string)) M ub (fun q u hu=>(Qz.cell (p:=(⟨g,0,none⟩:Addr).add q) iC).trans (ev.out q u hu)) (fun u hu=>by obtain ⟨z0,_,rfl⟩:=List.mem_map.1 hu;rfl) J J fm ?_;intro v5 w5 aM cw fo;have bs:Below wn.heap.size wn w5:=Below.grown (Qz) cw fm (fun q hq=>(KI.lt q hq).1);refine hK _ _ bs ?_;try simp only [Act.put,pz]
   clear hK K;refine bP 9 M U' M (fun K hK=>?_);go_simp;refine hK _ _ (ak bs (.cells #[.string y] 9)) ?_;try simp only [Act.put,pz]
   clear hK K;have cH:=ak bs (.cells #[.string y] 9);refine bP 10 M U' M (fun K hK=>?_);refine qQ qw _ _ M (w5.alloc (.cells #[.string y] 9)) wn.heap.size v5 _ _ (mG aM (ak (aj _) _)) M ⟨w5.heap.size,0,none⟩ 1 1 [.string y] M M (DI w5 9 [.string y] w5.heap.size rfl) (fun u hu=>by rw [List.mem_singleton.1 hu];rfl) J J fr ?_;intro v7 w7 nK Ua li;rw [show 0+jj = jj by omega,List.nil_append] at nK;obtain ⟨g9,p9,hv7,fS,kw,jG⟩:=wW nK J;subst hv7;have bF:Below wn.heap.size wn w7:=Below.grown (cH) Ua fr (fun q hq=>(aM.lt q hq).1);exact vI
  ·go_simp;refine hK _ _ (ak Qz (.cells #[.string y] 9)) ?_;try simp only [Act.put,pz]
   clear hK K;have cH:=ak Qz (.cells #[.string y] 9);replace KI:=mG KI (ak (aj _) (.cells #[.string y] 9));refine bP 4 M U' M (fun K hK=>?_);refine qQ qw _ _ M ((wn.drew.alloc (.cells #[] 9)).alloc (.cells #[.string y] 9)) wn.heap.size _ 0 [] KI M ⟨g,0,none⟩ jj ar ((s1.map Value.string)) M ub (fun q u hu=>(cH.cell (p:=(⟨g,0,none⟩:Addr).add q) iC).trans (ev.out q u hu)) (fun u hu=>by obtain ⟨z0,_,rfl⟩:=List.mem_map.1 hu;rfl) J J fr ?_;intro v5 w5 aM cw fo;have bs:Below wn.heap.size wn w5:=Below.grown (cH) cw fr (fun q hq=>(KI.lt q hq).1);refine hK _ _ bs ?_;try simp only [Act.put,pz]
   clear hK K;refine bP 10 M U' M (fun K hK=>?_);refine qQ qw _ _ M w5 wn.heap.size v5 _ _ aM M ⟨wn.heap.size+1,0,none⟩ 1 1 [.string y] M M (fun q u hu=>(World.cell?_of_block rC).trans ((DI (wn.drew.alloc (.cells #[] 9)) 9 [.string y] (wn.heap.size+1) S') q u hu)) (fun u hu=>by rw [List.mem_singleton.1 hu];rfl) J J hT ?_;exact vK
 ·go_simp;refine hK _ _ (ak ba (.cells #[.string y] 9)) ?_;try simp only [Act.put,pz]
  clear hK K;have cH:=ak ba (.cells #[.string y] 9);refine bP 0 M U' M (fun K hK=>?_);go_simp;refine hK _ _ (ak cH (.cells #[] 9)) ?_;try simp only [Act.put,pz]
  clear hK K;have Qz:=ak cH (.cells #[] 9);have KI:=vP (D9 (wn.drew.alloc (.cells #[.string y] 9)) 9 1 (wn.heap.size+1) S') (B':=wn.heap.size) J;refine bP 4 M U' M (fun K hK=>?_);refine qQ qw _ _ M ((wn.drew.alloc (.cells #[.string y] 9)).alloc (.cells #[] 9)) wn.heap.size _ 0 [] KI M ⟨g,0,none⟩ jj ar ((s1.map Value.string)) M ub (fun q u hu=>(Qz.cell (p:=(⟨g,0,none⟩:Addr).add q) iC).trans (ev.out q u hu)) (fun u hu=>by obtain ⟨z0,_,rfl⟩:=List.mem_map.1 hu;rfl) J J fm ?_;intro v5 w5 aM cw fo;have bs:Below wn.heap.size wn w5:=Below.grown (Qz) cw fm (fun q hq=>(KI.lt q hq).1);refine hK _ _ bs ?_;try simp only [Act.put,pz]
  clear hK K;refine bP 10 M U' M (fun K hK=>?_);refine qQ qw _ _ M w5 wn.heap.size v5 _ _ aM M ⟨wn.heap.size,0,none⟩ 1 1 [.string y] M M (fun q u hu=>(World.cell?_of_block rE).trans ((DI wn.drew 9 [.string y] wn.heap.size rfl) q u hu)) (fun u hu=>by rw [List.mem_singleton.1 hu];rfl) J J hT ?_
  exact vK):P:=h
theorem lE {P:Prop} (h:P:=by
 exact vK):P:=h
theorem Mb {P:Prop} (h:P:=by
 exact vI):P:=h
theorem B6 {P:Prop} (h:P:=by
 intro HK;have ba:Below wn.heap.size wn wn.drew:=aA (aj _);refine aX 1 _ M U' H' ba W' ?_;try simp only [Act.put,pz]
 refine aX 2 _ M U' H' ba W' ?_;try simp only [Act.put,pz]
 refine aX 3 _ M U' H' ba W' ?_;try simp only [Act.put,pz]
 refine aX 4 _ M U' H' ba W' ?_;try simp only [Act.put,pz]
 refine aX 6 _ M U' H' ba W' ?_;try simp only [Act.put,pz]
 refine aX 7 _ M U' H' ba W' ?_;try simp only [Act.put,pz]
 refine aX 8 _ M U' H' ba W' ?_;try simp only [Act.put,pz]
 refine aX 9 _ M U' H' ba W' ?_;try simp only [Act.put,pz]
 refine D7 0 10 M M U' M M (fun K hK=>?_) (fun K hK=>?_)
 ·go_simp;refine hK _ _ (ak ba (.cells #[] 53)) ?_;try simp only [Act.put,pz]
  clear hK K;have Qz:=ak ba (.cells #[] 53);have KI:=D9 wn.drew 53 9 wn.heap.size rfl;refine D7 5 10 M M U' M M (fun K hK=>?_) (fun K hK=>?_)
  ·refine qQ mC _ _ M (wn.drew.alloc (.cells #[] 53)) wn.heap.size _ 0 [] KI M ⟨g,0,none⟩ k dJ ((ds.take (k * 9))) M AH (fun q u hu=>(Qz.cell (p:=(⟨g,0,none⟩:Addr).add q) iC).trans (ev.out q u hu)) (fun u hu=>i6.out u (List.mem_of_mem_take hu)) J J fm ?_;intro v5 w5 aM cw fo;have bs:Below wn.heap.size wn w5:=Below.grown (Qz) cw fm (fun q hq=>(KI.lt q hq).1);refine hK _ _ bs ?_;try simp only [Act.put,pz]
   clear hK K;refine bP 10 M U' M (fun K hK=>?_);go_simp;refine hK _ _ (ak bs (.cells #[.string n.name,.slice bY n.labels.length bZ,.int .i64 n.az,.int .i64 n.mem,.int .i64 n.aw,.slice eU n.ai.length eX,.slice bg n.ae.length bn,.string ⟨#[]⟩,.int .i64 x.next] 53)) ?_;try simp only [Act.put,pz]
   clear hK K;have cH:=ak bs (.cells #[.string n.name,.slice bY n.labels.length bZ,.int .i64 n.az,.int .i64 n.mem,.int .i64 n.aw,.slice eU n.ai.length eX,.slice bg n.ae.length bn,.string ⟨#[]⟩,.int .i64 x.next] 53);refine bP 11 M U' M (fun K hK=>?_);refine qQ mC _ _ M (w5.alloc (.cells #[.string n.name,.slice bY n.labels.length bZ,.int .i64 n.az,.int .i64 n.mem,.int .i64 n.aw,.slice eU n.ai.length eX,.slice bg n.ae.length bn,.string ⟨#[]⟩,.int .i64 x.next] 53)) wn.heap.size v5 _ _ (mG aM (ak (aj _) _)) M ⟨w5.heap.size,0,none⟩ 1 1 [.string n.name,.slice bY n.labels.length bZ,.int .i64 n.az,.int .i64 n.mem,.int .i64 n.aw,.slice eU n.ai.length eX,.slice bg n.ae.length bn,.string ⟨#[]⟩,.int .i64 x.next] M M (DI w5 53 [.string n.name,.slice bY n.labels.length bZ,.int .i64 n.az,.int .i64 n.mem,.int .i64 n.aw,.slice eU n.ai.length eX,.slice bg n.ae.length bn,.string ⟨#[]⟩,.int .i64 x.next] w5.heap.size rfl) jH.out J J fr ?_;intro v7 w7 nK Ua li;rw [show 0+k = k by omega,List.nil_append] at nK;obtain ⟨g9,p9,hv7,fS,kw,jG⟩:=wW nK J;subst hv7;have bF:Below wn.heap.size wn w7:=Below.grown (cH) Ua fr (fun q hq=>(aM.lt q hq).1);exact vL
  ·go_simp;refine hK _ _ (ak Qz (.cells #[.string n.name,.slice bY n.labels.length bZ,.int .i64 n.az,.int .i64 n.mem,.int .i64 n.aw,.slice eU n.ai.length eX,.slice bg n.ae.length bn,.string ⟨#[]⟩,.int .i64 x.next] 53)) ?_;try simp only [Act.put,pz]
   clear hK K;have cH:=ak Qz (.cells #[.string n.name,.slice bY n.labels.length bZ,.int .i64 n.az,.int .i64 n.mem,.int .i64 n.aw,.slice eU n.ai.length eX,.slice bg n.ae.length bn,.string ⟨#[]⟩,.int .i64 x.next] 53);replace KI:=mG KI (ak (aj _) (.cells #[.string n.name,.slice bY n.labels.length bZ,.int .i64 n.az,.int .i64 n.mem,.int .i64 n.aw,.slice eU n.ai.length eX,.slice bg n.ae.length bn,.string ⟨#[]⟩,.int .i64 x.next] 53));refine bP 5 M U' M (fun K hK=>?_);refine qQ mC _ _ M ((wn.drew.alloc (.cells #[] 53)).alloc (.cells #[.string n.name,.slice bY n.labels.length bZ,.int .i64 n.az,.int .i64 n.mem,.int .i64 n.aw,.slice eU n.ai.length eX,.slice bg n.ae.length bn,.string ⟨#[]⟩,.int .i64 x.next] 53)) wn.heap.size _ 0 [] KI M ⟨g,0,none⟩ k dJ ((ds.take (k * 9))) M AH (fun q u hu=>(cH.cell (p:=(⟨g,0,none⟩:Addr).add q) iC).trans (ev.out q u hu)) (fun u hu=>i6.out u (List.mem_of_mem_take hu)) J J fr ?_;intro v5 w5 aM cw fo;have bs:Below wn.heap.size wn w5:=Below.grown (cH) cw fr (fun q hq=>(KI.lt q hq).1);refine hK _ _ bs ?_;try simp only [Act.put,pz]
   clear hK K;refine bP 11 M U' M (fun K hK=>?_);refine qQ mC _ _ M w5 wn.heap.size v5 _ _ aM M ⟨wn.heap.size+1,0,none⟩ 1 1 [.string n.name,.slice bY n.labels.length bZ,.int .i64 n.az,.int .i64 n.mem,.int .i64 n.aw,.slice eU n.ai.length eX,.slice bg n.ae.length bn,.string ⟨#[]⟩,.int .i64 x.next] M M (fun q u hu=>(World.cell?_of_block rC).trans ((DI (wn.drew.alloc (.cells #[] 53)) 53 [.string n.name,.slice bY n.labels.length bZ,.int .i64 n.az,.int .i64 n.mem,.int .i64 n.aw,.slice eU n.ai.length eX,.slice bg n.ae.length bn,.string ⟨#[]⟩,.int .i64 x.next] (wn.heap.size+1) S') q u hu)) jH.out J J hT ?_;exact B7
 ·go_simp;refine hK _ _ (ak ba (.cells #[.string n.name,.slice bY n.labels.length bZ,.int .i64 n.az,.int .i64 n.mem,.int .i64 n.aw,.slice eU n.ai.length eX,.slice bg n.ae.length bn,.string ⟨#[]⟩,.int .i64 x.next] 53)) ?_;try simp only [Act.put,pz]
  clear hK K;have cH:=ak ba (.cells #[.string n.name,.slice bY n.labels.length bZ,.int .i64 n.az,.int .i64 n.mem,.int .i64 n.aw,.slice eU n.ai.length eX,.slice bg n.ae.length bn,.string ⟨#[]⟩,.int .i64 x.next] 53);refine bP 0 M U' M (fun K hK=>?_);go_simp;refine hK _ _ (ak cH (.cells #[] 53)) ?_;try simp only [Act.put,pz]
  clear hK K;have Qz:=ak cH (.cells #[] 53);have KI:=vP (D9 (wn.drew.alloc (.cells #[.string n.name,.slice bY n.labels.length bZ,.int .i64 n.az,.int .i64 n.mem,.int .i64 n.aw,.slice eU n.ai.length eX,.slice bg n.ae.length bn,.string ⟨#[]⟩,.int .i64 x.next] 53)) 53 9 (wn.heap.size+1) S') (B':=wn.heap.size) J;refine bP 5 M U' M (fun K hK=>?_);refine qQ mC _ _ M ((wn.drew.alloc (.cells #[.string n.name,.slice bY n.labels.length bZ,.int .i64 n.az,.int .i64 n.mem,.int .i64 n.aw,.slice eU n.ai.length eX,.slice bg n.ae.length bn,.string ⟨#[]⟩,.int .i64 x.next] 53)).alloc (.cells #[] 53)) wn.heap.size _ 0 [] KI M ⟨g,0,none⟩ k dJ ((ds.take (k * 9))) M AH (fun q u hu=>(Qz.cell (p:=(⟨g,0,none⟩:Addr).add q) iC).trans (ev.out q u hu)) (fun u hu=>i6.out u (List.mem_of_mem_take hu)) J J fm ?_;intro v5 w5 aM cw fo;have bs:Below wn.heap.size wn w5:=Below.grown (Qz) cw fm (fun q hq=>(KI.lt q hq).1);refine hK _ _ bs ?_;try simp only [Act.put,pz]
  clear hK K;refine bP 11 M U' M (fun K hK=>?_);refine qQ mC _ _ M w5 wn.heap.size v5 _ _ aM M ⟨wn.heap.size,0,none⟩ 1 1 [.string n.name,.slice bY n.labels.length bZ,.int .i64 n.az,.int .i64 n.mem,.int .i64 n.aw,.slice eU n.ai.length eX,.slice bg n.ae.length bn,.string ⟨#[]⟩,.int .i64 x.next] M M (fun q u hu=>(World.cell?_of_block rE).trans ((DI wn.drew 53 [.string n.name,.slice bY n.labels.length bZ,.int .i64 n.az,.int .i64 n.mem,.int .i64 n.aw,.slice eU n.ai.length eX,.slice bg n.ae.length bn,.string ⟨#[]⟩,.int .i64 x.next] wn.heap.size rfl) q u hu)) jH.out J J hT ?_
  exact B7):P:=h
theorem B9 {P:Prop} (h:P:=by
 try simp only [Bool.and_false,Bool.and_true,Bool.false_and,Bool.and_self] at hp
 have HN:=I (gq hall.out hp);clear hp;go_wp2_with fail
 skip
 refine aF _ U' U' (aj _) ?_
 repeat ((first | refine aG M ?_ | refine aH _ M Ca ?_);simp only [Act.put,pz])
 refine aN ?_;intro wn X;replace X:=X.out;obtain ⟨jI,ky⟩:=ay X;have i7:w.heap.size < wn.heap.size:=sq X.size;have rI:b' < wn.heap.size:=sq X.size;try (have so:wr.heap.size < wn.heap.size:=sq X.size)
 have Mc:Below wr.heap.size wr wn:=bL;have Cd:wn.cell? ⟨wr.heap.size,8,none⟩ = some (.int .i64 x.O[j+1].seq):=by rw [jI _ _ S',cell_of_row _ _ _ _ _ _ (heap_alloc_new wr _)];rfl
 have XD:(j+1:Nat) < 12:=by omega
 obtain ⟨wo,hwo⟩:∃wo,wo = wr:=⟨_,rfl⟩;subst hwo;go_wp2_with fail
 go_loopw [5] (fun i2 wi=>∃q:Nat,q≤j+1∧i2 = .int .i64 q∧Hid (∀u∈x.O.take q,(u.seq == x.O[j+1].seq) = false)∧Below wn.heap.size wn wi) (fun i2 _=>j+1 - (intOf i2).toNat)
 case atStart=>exact ⟨0,Nat.zero_le _,rfl,by show ∀_,_;simp,aj _⟩
 case round =>
  obtain ⟨q,hq,rfl,HQ,hbi⟩:=hrel;have Fp:Below wo.heap.size wo wr:=ah Mc hbi;have Md:Below w.heap.size w wr:=ah b4 Fp;have XE:=(ay Fp).1 _ 0 tX |>.trans c0;have XF:=(ay Fp).1 _ 1 tX |>.trans c1;have XG:=(ay Fp).1 _ 2 tX |>.trans c2;have XH:=(ay Fp).1 _ 3 tX |>.trans c3;have XI:=(ay Fp).1 _ 4 tX |>.trans c4;have XJ:=(ay Fp).1 _ 5 tX |>.trans c5;replace Cd:=r' hbi Cd J;have vM:w.heap.size < wr.heap.size:=by have:=Fp.size;omega
  have XK:wo.heap.size < wr.heap.size:=by have:=hbi.size;omega
  by_cases hqk:q < j+1
  ·obtain ⟨b6,o6,ck6,Fk6,e,hbF6,LU,uc,aqC,AI⟩:=Sl.get (α:=ag) (c:=bW) dM (show q < x.O.length by omega);have Ra:=uc;obtain ⟨Ho,Hq,Xm,JK,JL,aan,AL,AO,Oz,anO,anP,acM,Xn,afj,afk,acN,aao,OA,hon6,aqD⟩:=kE Ra;subst anO;obtain ⟨rfl,rfl⟩:b6 = b'∧o6 = o':=by simpa using e.symm
   clear e;obtain ⟨m0,m1,m2,m3,m4,m5,m6,m7,m8⟩:=vN 9 AI;clear AI Ra anP;replace m8:=r' Md m8 LU;have hyi:b6 < wr.heap.size:=(by have:=Md.size;omega);have hqi:(q:Int) < ((j+1:Nat):Int):=J;have ow:q < x.O.length:=J;cases hse:(x.O[q].seq == x.O[j+1].seq) with
   | true =>
     have sr:en (x.O.take (j+1)) x.O[j+1].seq = true:=by unfold en;rw [List.any_eq_true];exact ⟨x.O[q],by rw [List.mem_take_iff_getElem];exact ⟨q,J,rfl⟩,hse⟩
     have HF:=I (DR av XL);go_wp2_with fail
     refine aF _ U' U' (aj _) ?_
     repeat ((first | refine aG M ?_ | refine aH _ M vQ ?_);simp only [Act.put,pz])
     refine aN ?_;intro wz hz;replace hz:=hz.out;exact ss
   | false =>
     have XM:=I (yQ (p:=fun u:ag=>u.seq == x.O[j+1].seq) ow HQ.out hse);go_wp2_with fail
     refine aF _ U' U' (aj _) ?_
     repeat ((first | refine aG M ?_ | refine aH _ M vQ ?_);simp only [Act.put,pz])
     refine aN ?_;intro wz hz;replace hz:=hz.out;go_wp2;exact ⟨⟨q+1,J,N',XM.out,bL⟩,by simp [intOf];omega⟩
  ·obtain rfl:q = j+1:=by omega
   have sr:en (x.O.take (j+1)) x.O[j+1].seq = false:=by exact Cf
   have Gn:=I (gq hfresh.out (show DN x.O (j+1) = true by rw [sG av,sr];rfl));clear sr;go_wp2
   exact ⟨⟨j+1+1,J,N',HN.out,Gn.out,ah aK Fp⟩,by simp [intOf];omega⟩):P:=h
theorem Cg {P:Prop} (h:P:=by
 have Me:=I hS1;have XN:=I hS2;have H1:=I he1;have H2:=I he2;clear hS1 hS2 he1 he2;go_enter Tryz.func100,Tryz.ntmps100;go_wp2_with fail
 refine (gQ x _ _ nm _ (aJ h bL) cI).mono ?_;rw [HI.out];rintro e w2 ⟨rfl,aq⟩;obtain ⟨cj,cN⟩:=ay aq;have cC:w.heap.size < w2.heap.size:=(sq aq.size);have lI:w.heap.size+1 < w2.heap.size:=(sq aq.size);have eS:Below w.heap.size w w2:=bL;go_wp2_with fail
 refine (jm x _ _ nm _ (aJ h bL) vk).mono ?_;rw [HU.out];rintro e w3 ⟨rfl,bd⟩;obtain ⟨dx,hf3⟩:=ay bd;have dm:w.heap.size < w3.heap.size:=(sq bd.size);have vR:w.heap.size+1 < w3.heap.size:=(sq bd.size);have eC:Below w.heap.size w w3:=ah eS bd;replace q0:=r' eC q0 hbs;replace q1:=r' eC q1 hbs;replace q2:=r' eC q2 hbs;replace q3:=r' eC q3 hbs;replace q4:=r' eC q4 hbs;replace q5:=r' eC q5 hbs;have jd:bh < w3.heap.size:=by have:=eC.size;omega
 go_wp2_with fail
 refine (oQ a p.az _ ha kQ).mono ?_;rw [H1.out];rintro e w4 ⟨rfl,bw⟩;obtain ⟨fa,hf4⟩:=ay bw;have Wy:w.heap.size < w4.heap.size:=(sq bw.size);have AJ:w.heap.size+1 < w4.heap.size:=(sq bw.size);go_wp2_with fail
 refine (oQ b p.mem _ U lg).mono ?_;rw [H2.out];rintro e w5 ⟨rfl,bs⟩;obtain ⟨py,ox⟩:=ay bs;have Es:w.heap.size < w5.heap.size:=(sq bs.size);have IV:w.heap.size+1 < w5.heap.size:=(sq bs.size);have Dc:Below w3.heap.size w3 w5:=ah bw bs;replace q0:=r' Dc q0 jd;replace q1:=r' Dc q1 jd;replace q2:=r' Dc q2 jd;replace q3:=r' Dc q3 jd;replace q4:=r' Dc q4 jd;replace q5:=r' Dc q5 jd;have afO:bh < w5.heap.size:=by have:=Dc.size;omega
 go_wp2_with fail
 refine aF w5 U' U' (aj _) ?_
 repeat (first
  | (apply aG
     case hw=>rfl
     simp only [Act.put,pz])
  | (apply aH
     case hw=>rfl
     case h =>
      intro wq hq;have dE:=(aB hq).1;have lJ:=(aB hq).2;go_simp
      first
       | exact ⟨hq,rfl⟩
       | exact ⟨aQ hq _,rfl⟩
       | ((refine (IB _ _ _ Ki Ki).mono ?_;(first | rw [Me.out] | rw [XN.out]);rintro e wz ⟨rfl,nV⟩;exact ⟨rfl,aI hq nV⟩))
       | (simp only [↓IntWalk.iteOmega];exact ⟨hq,rfl⟩)
     simp only [Act.put,pz]))
 refine aN ?_;intro wn X;replace X:=X.out;go_wp2;go_ret
 exact ⟨by rw [HF.out];first | rfl | (simp;exact AK.out),ah eC (ah Dc X)⟩):P:=h
theorem d8 {P:Prop} (h:P:=by
 exact vQ):P:=h
theorem Ch {P:Prop} (h:P:=by
 intro HK;have ba:Below wn.heap.size wn wn.drew:=aA (aj _);refine aX 1 _ M U' H' ba W' ?_;try simp only [Act.put,pz]
 refine aX 2 _ M U' H' ba W' ?_;try simp only [Act.put,pz]
 refine aX 3 _ M U' H' ba W' ?_;try simp only [Act.put,pz]
 refine aX 4 _ M U' H' ba W' ?_;try simp only [Act.put,pz]
 refine aX 6 _ M U' H' ba W' ?_;try simp only [Act.put,pz]
 refine D7 0 7 M M U' M M (fun K hK=>?_) (fun K hK=>?_)
 ·go_simp;refine hK _ _ (ak ba (.cells #[] 47)) ?_;try simp only [Act.put,pz]
  clear hK K;have Qz:=ak ba (.cells #[] 47);have KI:=D9 wn.drew 47 6 wn.heap.size rfl;refine D7 5 7 M M U' M M (fun K hK=>?_) (fun K hK=>?_)
  ·refine qQ mD _ _ M (wn.drew.alloc (.cells #[] 47)) wn.heap.size _ 0 [] KI M ⟨g,0,none⟩ k bV ((ds.take (k * 6))) M AH (fun q u hu=>(Qz.cell (p:=(⟨g,0,none⟩:Addr).add q) iC).trans (ev.out q u hu)) (fun u hu=>i6.out u (List.mem_of_mem_take hu)) J J fm ?_;intro v5 w5 aM cw fo;have bs:Below wn.heap.size wn w5:=Below.grown (Qz) cw fm (fun q hq=>(KI.lt q hq).1);refine hK _ _ bs ?_;try simp only [Act.put,pz]
   clear hK K;refine bP 7 M U' M (fun K hK=>?_);go_simp;refine hK _ _ (ak bs (.cells #[.string n.name,.slice bY n.labels.length bZ,.int .i64 n.az,.int .i64 n.mem,.int .i64 n.ax,.slice wP n.aT.length wQ] 47)) ?_;try simp only [Act.put,pz]
   clear hK K;have cH:=ak bs (.cells #[.string n.name,.slice bY n.labels.length bZ,.int .i64 n.az,.int .i64 n.mem,.int .i64 n.ax,.slice wP n.aT.length wQ] 47);refine bP 8 M U' M (fun K hK=>?_);refine qQ mD _ _ M (w5.alloc (.cells #[.string n.name,.slice bY n.labels.length bZ,.int .i64 n.az,.int .i64 n.mem,.int .i64 n.ax,.slice wP n.aT.length wQ] 47)) wn.heap.size v5 _ _ (mG aM (ak (aj _) _)) M ⟨w5.heap.size,0,none⟩ 1 1 [.string n.name,.slice bY n.labels.length bZ,.int .i64 n.az,.int .i64 n.mem,.int .i64 n.ax,.slice wP n.aT.length wQ] M M (DI w5 47 [.string n.name,.slice bY n.labels.length bZ,.int .i64 n.az,.int .i64 n.mem,.int .i64 n.ax,.slice wP n.aT.length wQ] w5.heap.size rfl) jH.out J J fr ?_;intro v7 w7 nK Ua li;rw [show 0+k = k by omega,List.nil_append] at nK;obtain ⟨g9,p9,hv7,fS,kw,jG⟩:=wW nK J;subst hv7;have bF:Below wn.heap.size wn w7:=Below.grown (cH) Ua fr (fun q hq=>(aM.lt q hq).1);exact vW
  ·go_simp;refine hK _ _ (ak Qz (.cells #[.string n.name,.slice bY n.labels.length bZ,.int .i64 n.az,.int .i64 n.mem,.int .i64 n.ax,.slice wP n.aT.length wQ] 47)) ?_;try simp only [Act.put,pz]
   clear hK K;have cH:=ak Qz (.cells #[.string n.name,.slice bY n.labels.length bZ,.int .i64 n.az,.int .i64 n.mem,.int .i64 n.ax,.slice wP n.aT.length wQ] 47);replace KI:=mG KI (ak (aj _) (.cells #[.string n.name,.slice bY n.labels.length bZ,.int .i64 n.az,.int .i64 n.mem,.int .i64 n.ax,.slice wP n.aT.length wQ] 47));refine bP 5 M U' M (fun K hK=>?_);refine qQ mD _ _ M ((wn.drew.alloc (.cells #[] 47)).alloc (.cells #[.string n.name,.slice bY n.labels.length bZ,.int .i64 n.az,.int .i64 n.mem,.int .i64 n.ax,.slice wP n.aT.length wQ] 47)) wn.heap.size _ 0 [] KI M ⟨g,0,none⟩ k bV ((ds.take (k * 6))) M AH (fun q u hu=>(cH.cell (p:=(⟨g,0,none⟩:Addr).add q) iC).trans (ev.out q u hu)) (fun u hu=>i6.out u (List.mem_of_mem_take hu)) J J fr ?_;intro v5 w5 aM cw fo;have bs:Below wn.heap.size wn w5:=Below.grown (cH) cw fr (fun q hq=>(KI.lt q hq).1);refine hK _ _ bs ?_;try simp only [Act.put,pz]
   clear hK K;refine bP 8 M U' M (fun K hK=>?_);refine qQ mD _ _ M w5 wn.heap.size v5 _ _ aM M ⟨wn.heap.size+1,0,none⟩ 1 1 [.string n.name,.slice bY n.labels.length bZ,.int .i64 n.az,.int .i64 n.mem,.int .i64 n.ax,.slice wP n.aT.length wQ] M M (fun q u hu=>(World.cell?_of_block rC).trans ((DI (wn.drew.alloc (.cells #[] 47)) 47 [.string n.name,.slice bY n.labels.length bZ,.int .i64 n.az,.int .i64 n.mem,.int .i64 n.ax,.slice wP n.aT.length wQ] (wn.heap.size+1) S') q u hu)) jH.out J J hT ?_;exact Ci
 ·go_simp;refine hK _ _ (ak ba (.cells #[.string n.name,.slice bY n.labels.length bZ,.int .i64 n.az,.int .i64 n.mem,.int .i64 n.ax,.slice wP n.aT.length wQ] 47)) ?_;try simp only [Act.put,pz]
  clear hK K;have cH:=ak ba (.cells #[.string n.name,.slice bY n.labels.length bZ,.int .i64 n.az,.int .i64 n.mem,.int .i64 n.ax,.slice wP n.aT.length wQ] 47);refine bP 0 M U' M (fun K hK=>?_);go_simp;refine hK _ _ (ak cH (.cells #[] 47)) ?_;try simp only [Act.put,pz]
  clear hK K;have Qz:=ak cH (.cells #[] 47);have KI:=vP (D9 (wn.drew.alloc (.cells #[.string n.name,.slice bY n.labels.length bZ,.int .i64 n.az,.int .i64 n.mem,.int .i64 n.ax,.slice wP n.aT.length wQ] 47)) 47 6 (wn.heap.size+1) S') (B':=wn.heap.size) J;refine bP 5 M U' M (fun K hK=>?_);refine qQ mD _ _ M ((wn.drew.alloc (.cells #[.string n.name,.slice bY n.labels.length bZ,.int .i64 n.az,.int .i64 n.mem,.int .i64 n.ax,.slice wP n.aT.length wQ] 47)).alloc (.cells #[] 47)) wn.heap.size _ 0 [] KI M ⟨g,0,none⟩ k bV ((ds.take (k * 6))) M AH (fun q u hu=>(Qz.cell (p:=(⟨g,0,none⟩:Addr).add q) iC).trans (ev.out q u hu)) (fun u hu=>i6.out u (List.mem_of_mem_take hu)) J J fm ?_;intro v5 w5 aM cw fo;have bs:Below wn.heap.size wn w5:=Below.grown (Qz) cw fm (fun q hq=>(KI.lt q hq).1);refine hK _ _ bs ?_;try simp only [Act.put,pz]
  clear hK K;refine bP 8 M U' M (fun K hK=>?_);refine qQ mD _ _ M w5 wn.heap.size v5 _ _ aM M ⟨wn.heap.size,0,none⟩ 1 1 [.string n.name,.slice bY n.labels.length bZ,.int .i64 n.az,.int .i64 n.mem,.int .i64 n.ax,.slice wP n.aT.length wQ] M M (fun q u hu=>(World.cell?_of_block rE).trans ((DI wn.drew 47 [.string n.name,.slice bY n.labels.length bZ,.int .i64 n.az,.int .i64 n.mem,.int .i64 n.ax,.slice wP n.aT.length wQ] wn.heap.size rfl) q u hu)) jH.out J J hT ?_
  exact Ci):P:=h
theorem Cj {P:Prop} (h:P:=by
 intro HK;have ba:Below wn.heap.size wn wn.drew:=aA (aj _);refine aX 1 _ M U' H' ba W' ?_;try simp only [Act.put,pz]
 refine aX 2 _ M U' H' ba W' ?_;try simp only [Act.put,pz]
 refine aX 3 _ M U' H' ba W' ?_;try simp only [Act.put,pz]
 refine aX 5 _ M U' H' ba W' ?_;try simp only [Act.put,pz]
 refine D7 0 6 M M U' M M (fun K hK=>?_) (fun K hK=>?_)
 ·go_simp;refine hK _ _ (ak ba (.cells #[] 70)) ?_;try simp only [Act.put,pz]
  clear hK K;have Qz:=ak ba (.cells #[] 70);have KI:=D9 wn.drew 70 3 wn.heap.size rfl;refine D7 4 6 M M U' M M (fun K hK=>?_) (fun K hK=>?_)
  ·refine qQ oy _ _ M (wn.drew.alloc (.cells #[] 70)) wn.heap.size _ 0 [] KI M ⟨g,0,none⟩ jj ar ((ds.take (jj * 3))) M Mf (fun q u hu=>(Qz.cell (p:=(⟨g,0,none⟩:Addr).add q) iC).trans (ev.out q u hu)) (fun u hu=>i6.out u (List.mem_of_mem_take hu)) J J fm ?_;intro v5 w5 aM cw fo;have bs:Below wn.heap.size wn w5:=Below.grown (Qz) cw fm (fun q hq=>(KI.lt q hq).1);refine hK _ _ bs ?_;try simp only [Act.put,pz]
   clear hK K;refine bP 6 M U' M (fun K hK=>?_);go_simp;refine hK _ _ (ak bs (.cells #[.string y.key,.int .i64 y.op,.slice Ay y.values.length cy] 70)) ?_;try simp only [Act.put,pz]
   clear hK K;have cH:=ak bs (.cells #[.string y.key,.int .i64 y.op,.slice Ay y.values.length cy] 70);refine bP 7 M U' M (fun K hK=>?_);refine qQ oy _ _ M (w5.alloc (.cells #[.string y.key,.int .i64 y.op,.slice Ay y.values.length cy] 70)) wn.heap.size v5 _ _ (mG aM (ak (aj _) _)) M ⟨w5.heap.size,0,none⟩ 1 1 [.string y.key,.int .i64 y.op,.slice Ay y.values.length cy] M M (DI w5 70 [.string y.key,.int .i64 y.op,.slice Ay y.values.length cy] w5.heap.size rfl) jH.out J J fr ?_;intro v7 w7 nK Ua li;rw [show 0+jj = jj by omega,List.nil_append] at nK;obtain ⟨g9,p9,hv7,fS,kw,jG⟩:=wW nK J;subst hv7;have bF:Below wn.heap.size wn w7:=Below.grown (cH) Ua fr (fun q hq=>(aM.lt q hq).1);exact Ck
  ·go_simp;refine hK _ _ (ak Qz (.cells #[.string y.key,.int .i64 y.op,.slice Ay y.values.length cy] 70)) ?_;try simp only [Act.put,pz]
   clear hK K;have cH:=ak Qz (.cells #[.string y.key,.int .i64 y.op,.slice Ay y.values.length cy] 70);replace KI:=mG KI (ak (aj _) (.cells #[.string y.key,.int .i64 y.op,.slice Ay y.values.length cy] 70));refine bP 4 M U' M (fun K hK=>?_);refine qQ oy _ _ M ((wn.drew.alloc (.cells #[] 70)).alloc (.cells #[.string y.key,.int .i64 y.op,.slice Ay y.values.length cy] 70)) wn.heap.size _ 0 [] KI M ⟨g,0,none⟩ jj ar ((ds.take (jj * 3))) M Mf (fun q u hu=>(cH.cell (p:=(⟨g,0,none⟩:Addr).add q) iC).trans (ev.out q u hu)) (fun u hu=>i6.out u (List.mem_of_mem_take hu)) J J fr ?_;intro v5 w5 aM cw fo;have bs:Below wn.heap.size wn w5:=Below.grown (cH) cw fr (fun q hq=>(KI.lt q hq).1);refine hK _ _ bs ?_;try simp only [Act.put,pz]
   clear hK K;refine bP 7 M U' M (fun K hK=>?_);refine qQ oy _ _ M w5 wn.heap.size v5 _ _ aM M ⟨wn.heap.size+1,0,none⟩ 1 1 [.string y.key,.int .i64 y.op,.slice Ay y.values.length cy] M M (fun q u hu=>(World.cell?_of_block rC).trans ((DI (wn.drew.alloc (.cells #[] 70)) 70 [.string y.key,.int .i64 y.op,.slice Ay y.values.length cy] (wn.heap.size+1) S') q u hu)) jH.out J J hT ?_;exact Cl
 ·go_simp;refine hK _ _ (ak ba (.cells #[.string y.key,.int .i64 y.op,.slice Ay y.values.length cy] 70)) ?_;try simp only [Act.put,pz]
  clear hK K;have cH:=ak ba (.cells #[.string y.key,.int .i64 y.op,.slice Ay y.values.length cy] 70);refine bP 0 M U' M (fun K hK=>?_);go_simp;refine hK _ _ (ak cH (.cells #[] 70)) ?_;try simp only [Act.put,pz]
  clear hK K;have Qz:=ak cH (.cells #[] 70);have KI:=vP (D9 (wn.drew.alloc (.cells #[.string y.key,.int .i64 y.op,.slice Ay y.values.length cy] 70)) 70 3 (wn.heap.size+1) S') (B':=wn.heap.size) J;refine bP 4 M U' M (fun K hK=>?_);refine qQ oy _ _ M ((wn.drew.alloc (.cells #[.string y.key,.int .i64 y.op,.slice Ay y.values.length cy] 70)).alloc (.cells #[] 70)) wn.heap.size _ 0 [] KI M ⟨g,0,none⟩ jj ar ((ds.take (jj * 3))) M Mf (fun q u hu=>(Qz.cell (p:=(⟨g,0,none⟩:Addr).add q) iC).trans (ev.out q u hu)) (fun u hu=>i6.out u (List.mem_of_mem_take hu)) J J fm ?_;intro v5 w5 aM cw fo;have bs:Below wn.heap.size wn w5:=Below.grown (Qz) cw fm (fun q hq=>(KI.lt q hq).1);refine hK _ _ bs ?_;try simp only [Act.put,pz]
  clear hK K;refine bP 7 M U' M (fun K hK=>?_);refine qQ oy _ _ M w5 wn.heap.size v5 _ _ aM M ⟨wn.heap.size,0,none⟩ 1 1 [.string y.key,.int .i64 y.op,.slice Ay y.values.length cy] M M (fun q u hu=>(World.cell?_of_block rE).trans ((DI wn.drew 70 [.string y.key,.int .i64 y.op,.slice Ay y.values.length cy] wn.heap.size rfl) q u hu)) jH.out J J hT ?_
  exact Cl):P:=h
theorem st {P:Prop} (h:P:=by
 try simp only [Bool.and_false,Bool.and_true,Bool.false_and,Bool.and_self] at hp
 have HF:=I (dW av hp);clear hp;go_wp2_with fail
 refine aF _ U' U' (aj _) ?_
 repeat ((first | refine aG M ?_ | refine aH _ M Cn ?_);simp only [Act.put,pz])
 refine aN ?_;intro wn X;replace X:=X.out;obtain ⟨jI,ky⟩:=ay X;have i7:w.heap.size < wn.heap.size:=sq X.size;have rI:b' < wn.heap.size:=sq X.size;try (have so:wr.heap.size < wn.heap.size:=sq X.size)
 go_wp2_with (go_at_call 52;refine (jm x _ _ x.V[j+1].name _ (aJ h bL) Ji.out).mono ?_;rw [HU.out];rintro e w5 ⟨rfl,bs⟩;obtain ⟨py,ox⟩:=ay bs;have Es:w.heap.size < w5.heap.size:=(sq bs.size);have IV:b' < w5.heap.size:=(sq bs.size);(try have ud:wr.heap.size < w5.heap.size:=(sq bs.size)))
 go_ret
 exact ⟨by rw [HF.out];rfl,bL⟩):P:=h
theorem sv {P:Prop} (h:P:=by
 have HF:=I (dW av hp);clear hp;go_wp2_with fail
 refine aF _ U' U' (aj _) ?_
 repeat ((first | refine aG M ?_ | refine aH _ M Co ?_);simp only [Act.put,pz])
 refine aN ?_;intro wn X;replace X:=X.out;obtain ⟨jI,ky⟩:=ay X;have i7:w.heap.size < wn.heap.size:=sq X.size;have rI:b < wn.heap.size:=sq X.size;try (have so:wr.heap.size < wn.heap.size:=sq X.size)
 go_wp2_with (go_at_call 52;refine (jm x _ _ x.V[0].name _ (aJ h bL) Ji.out).mono ?_;rw [HU.out];rintro e w5 ⟨rfl,bs⟩;obtain ⟨py,ox⟩:=ay bs;have Es:w.heap.size < w5.heap.size:=(sq bs.size);have IV:b < w5.heap.size:=(sq bs.size);(try have ud:wr.heap.size < w5.heap.size:=(sq bs.size)))
 go_ret
 exact ⟨by rw [HF.out];rfl,bL⟩):P:=h
theorem vX {P:Prop} (h:P:=by
 rintro e w1 ⟨ds,G,rfl,hO,bp⟩;have hR:=hO.rd;obtain ⟨kM,kN,ND,ny,nC,TD,aD,hGr,NG,TF,TG,xI,uD,xJ⟩:=aO hR;subst aD;clear hGr hR;have cq:=bp.size;simp at cq;have XB:oG w1 (w.heap.size+1+1) [.slice none 0 0,.slice none 0 0,.int .i64 0,.int .i64 0,.int .i64 0,.int .i64 0]:=oG.ext (oG.ue w _ _ [.slice none 0 0,.slice none 0 0,.int .i64 0,.int .i64 0,.int .i64 0,.int .i64 0] 29) bp;have HO:=I (hO.mono (B':=w.heap.size+1+1+1) S');have aq:Below w.heap.size w w1:=ah b9 bp;clear hO bp h;try dsimp only
 iterate 8 go_step
 refine ki 29 _ _ rfl (w.heap.size+1+1) 0 [.slice kM R.V.length kN,.slice ny R.O.length nC,.int .i64 R.next,.int .i64 R.weights.pack,.int .i64 R.weights.af,.int .i64 R.weights.an] [.slice none 0 0,.slice none 0 0,.int .i64 0,.int .i64 0,.int .i64 0,.int .i64 0] rfl rfl XB S' U' et ?_;intro w2 YB OB;replace YB:oG w2 (w.heap.size+1+1) [.slice kM R.V.length kN,.slice ny R.O.length nC,.int .i64 R.next,.int .i64 R.weights.pack,.int .i64 R.weights.af,.int .i64 R.weights.an]:=YB;try dsimp only [Act.put]
 go_wp2;refine bodyPost_ret (v:=.tuple #[.agg #[.slice kM R.V.length kN,.slice ny R.O.length nC,.int .i64 R.next,.int .i64 R.weights.pack,.int .i64 R.weights.af,.int .i64 R.weights.an],.int .i64 cd]) (vZ Tryz.results66 _ (w.heap.size+1+1) [.slice kM R.V.length kN,.slice ny R.O.length nC,.int .i64 R.next,.int .i64 R.weights.pack,.int .i64 R.weights.af,.int .i64 R.weights.an] _ _ rfl rfl YB Tryz.underlying29 rfl U') rfl ?_
 exact Cr):P:=h
theorem we {P:Prop} (h:P:=by
 go_wp2_with fail
 refine (gQ x _ _ nm _ (aJ h bL) cI).mono ?_;rw [HI.out];rintro e w2 ⟨rfl,aq⟩;obtain ⟨cj,cN⟩:=ay aq;have cC:w.heap.size < w2.heap.size:=(sq aq.size);have lI:w.heap.size+1 < w2.heap.size:=(sq aq.size);have eS:Below w.heap.size w w2:=bL;go_wp2_with fail
 refine (jm x _ _ nm _ (aJ h bL) vk).mono ?_
 exact Cs):P:=h
theorem wg {P:Prop} (h:P:=by
 go_wp2_with fail
 skip
 refine aF _ U' U' (aj _) ?_
 repeat ((first | refine aG M ?_ | refine aH _ M Ca ?_);simp only [Act.put,pz])
 refine aN ?_;intro wn X;replace X:=X.out;obtain ⟨jI,ky⟩:=ay X;have i7:w.heap.size < wn.heap.size:=sq X.size;have rI:b' < wn.heap.size:=sq X.size;try (have so:wr.heap.size < wn.heap.size:=sq X.size)
 exact ss):P:=h
theorem wh {P:Prop} (h:P:=by
 have HS:=I hS;clear hS;have H1:=I he1;clear he1;have H2:=I he2;clear he2;go_wp2_with fail
 refine (wj.out _ bL).mono ?_;rw [HS.out];rintro e w4 ⟨rfl,bw⟩;obtain ⟨fa,hf4⟩:=ay bw;have Wy:w.heap.size < w4.heap.size:=(sq bw.size);have AJ:w.heap.size+1 < w4.heap.size:=(sq bw.size);have Ct:w3.heap.size < w4.heap.size:=(sq bw.size);go_wp2_with fail
 refine (ui.out _ bL).mono ?_;rintro e w5 ⟨rfl,bs⟩;obtain ⟨py,ox⟩:=ay bs;have Es:w.heap.size < w5.heap.size:=(sq bs.size);have IV:w.heap.size+1 < w5.heap.size:=(sq bs.size);have ud:w3.heap.size < w5.heap.size:=(sq bs.size);go_wp2_with fail
 refine (oQ a p.az _ ha kQ).mono ?_;rw [H1.out];rintro e w6 ⟨rfl,cD⟩;obtain ⟨AI,Xe⟩:=ay cD;have lL:w.heap.size < w6.heap.size:=(sq cD.size);have Mg:w.heap.size+1 < w6.heap.size:=(sq cD.size);have Mh:w3.heap.size < w6.heap.size:=(sq cD.size);go_wp2_with fail
 refine (oQ b p.mem _ U lg).mono ?_
 exact Cu):P:=h
theorem Cv {P:Prop} (h:P:=by
 have HN:=I (gq hall.out hp);clear hp;go_wp2_with fail
 skip
 refine aF _ U' U' (aj _) ?_
 repeat ((first | refine aG M ?_ | refine aH _ M Cw ?_);simp only [Act.put,pz])
 refine aN ?_;intro wn X;replace X:=X.out;obtain ⟨jI,ky⟩:=ay X;have i7:w.heap.size < wn.heap.size:=sq X.size;have rI:b < wn.heap.size:=sq X.size;try (have so:wr.heap.size < wn.heap.size:=sq X.size)
 have Mc:Below wr.heap.size wr wn:=bL;have Cd:wn.cell? ⟨wr.heap.size,8,none⟩ = some (.int .i64 x.O[0].seq):=by rw [jI _ _ S',cell_of_row _ _ _ _ _ _ (heap_alloc_new wr _)];rfl
 have XD:(0:Nat) < 12:=by omega
 obtain ⟨wo,hwo⟩:∃wo,wo = wr:=⟨_,rfl⟩;subst hwo;go_wp2_with fail
 go_loopw [5] (fun i2 wi=>∃q:Nat,q≤0∧i2 = .int .i64 q∧Hid (∀u∈x.O.take q,(u.seq == x.O[0].seq) = false)∧Below wn.heap.size wn wi) (fun i2 _=>0 - (intOf i2).toNat)
 case atStart=>exact ⟨0,Nat.zero_le _,rfl,by show ∀_,_;simp,aj _⟩
 case round =>
  obtain ⟨q,hq,rfl,HQ,hbi⟩:=hrel;have Fp:Below wo.heap.size wo wr:=ah Mc hbi;have Md:Below w.heap.size w wr:=ah b4 Fp;have XE:=(ay Fp).1 _ 0 tX |>.trans c0;have XF:=(ay Fp).1 _ 1 tX |>.trans c1;have XG:=(ay Fp).1 _ 2 tX |>.trans c2;have XH:=(ay Fp).1 _ 3 tX |>.trans c3;have XI:=(ay Fp).1 _ 4 tX |>.trans c4;have XJ:=(ay Fp).1 _ 5 tX |>.trans c5;replace Cd:=r' hbi Cd J;have vM:w.heap.size < wr.heap.size:=by have:=Fp.size;omega
  have XK:wo.heap.size < wr.heap.size:=by have:=hbi.size;omega
  by_cases hqk:q < 0
  ·exact absurd hqk J
  ·obtain rfl:q = 0:=by omega
   have sr:en (x.O.take (0)) x.O[0].seq = false:=by exact Cf
   have Gn:=I (gq hfresh.out (show DN x.O (0) = true by rw [sG av,sr];rfl));clear sr;go_wp2
   exact ⟨⟨0+1,J,N',HN.out,Gn.out,ah aK Fp⟩,by simp [intOf];omega⟩):P:=h
theorem Cx {P:Prop} (h:P:=by
 rw [HK.out];rintro e w2 ⟨rfl,aq⟩;obtain ⟨cj,cN⟩:=ay aq;have cC:w.heap.size < w2.heap.size:=by have:=aq.size;simp at this;omega
 have jK:w2.cell? ⟨w.heap.size,1,none⟩ = some (.int .i64 x.op):=by rw [cj _ _ S',cell_of_row _ _ _ _ _ _ (heap_alloc_new w _)];rfl
 have mj:w2.cell? ⟨w.heap.size,2,none⟩ = some (.slice jy x.values.length ji):=by rw [cj _ _ S',cell_of_row _ _ _ _ _ _ (heap_alloc_new w _)];rfl
 have eS:Below w.heap.size w w2:=bL;clear cj cN;go_wp2;go_ret
 exact ⟨by rw [HF.out];first | rfl | simp_all,eS⟩):P:=h
theorem wy {P:Prop} (h:P:=by
 have Z:jo w6 ls.tail AM []:=by have e:=wA (fun h=>(vO h).2.1) sw;subst e;exact sw.frame (fun b U=>by cases U) (by have:=gF.size;have:=fb.size;simp only [World.size_alloc] at *;omega)
 have h2:jo w6 [ls[0]] wB []:=by have e:=wA (fun h=>(vO h).2.1) lM;subst e;exact lM.frame (fun b U=>by cases U) fb.size
 have h3:=Z.append h2;obtain ⟨A4,c4,F4,hv6,hS6,hF6⟩:=Sl.pA (xs:=ls.tail++[ls[0]]) (e:=67) (v:=v6) (B:=w3.heap.size) (by have:=R6;simp only [Nat.zero_add,List.nil_append] at this;rw [List.length_append];exact this) h3;have cD:∀y∈F4,w3.heap.size≤y:=fun y hy=>by
  rcases hF6 y hy with h | h
  ·cases h
  ·exact (R6.lt y h).1
 have uc:rd w6 (ls.tail++[ls[0]]) [.slice A4 (ls.tail++[ls[0]]).length c4] F4:=hS6;rw [rK] at hv6 uc;subst hv6;have Y6:=jN.out.ext ie;have k6:=Y6.cell (i:=1) (u:=.slice (some ⟨bl,ol,none⟩) ls.length cl) rfl;have f6:=Y6.fz 1;refine hK _ _ ie ?_;try simp only [Act.put,pz]
 clear hK K;refine b5 11 M U' M (fun K hK=>?_);go_simp;refine hK _ _ ie ?_;try simp only [Act.put,pz]
 clear hK K;refine gT U' ?_;refine bP 12 M U' M (fun K hK=>?_);go_simp;refine hK _ _ trivial ?_;try simp only [Act.put,pz]
 clear hK K;refine nR U' ?_
 exact HK _ _ ⟨A4,c4,F4,_,_,_,_,_,_,_,_,_,_,_,_,uk,(nN.lq _ ie).setCell (p:=⟨w2.heap.size,1,none⟩) (List.mem_singleton.2 rfl) _,Y6.put 1 _,⟨bb.frame uc (fun b U=>Below.heap_setCell _ _ _ _ (by have:=cD b U;dsimp only;omega)) ew,fun b _=>Nat.zero_le b⟩,fun b U=>by have:=cD b U;omega⟩):P:=h
theorem wC {P:Prop} (h:P:=by
 go_wp2_with fail
 skip
 refine aF _ U' U' (aj _) ?_
 repeat ((first | refine aG M ?_ | refine aH _ M Cw ?_);simp only [Act.put,pz])
 refine aN ?_;intro wn X;replace X:=X.out;obtain ⟨jI,ky⟩:=ay X;have i7:w.heap.size < wn.heap.size:=sq X.size;have rI:b < wn.heap.size:=sq X.size;try (have so:wr.heap.size < wn.heap.size:=sq X.size)
 exact ss):P:=h
theorem Cy {P:Prop} (h:P:=by
 exact Cn):P:=h
theorem Mi {P:Prop} (h:P:=by
 exact Cs):P:=h
theorem wD {P:Prop} (h:P:=by
 have HS:=I hS;clear hS;have H1:=I eT;have H2:=I cN;clear eT cN;go_wp2_with fail
 refine (wj.out _ bL).mono ?_;rw [HS.out];rintro e w4 ⟨rfl,bw⟩;obtain ⟨fa,hf4⟩:=ay bw;have Wy:w.heap.size < w4.heap.size:=(sq bw.size);have AJ:w.heap.size+1 < w4.heap.size:=(sq bw.size);have Ct:w3.heap.size < w4.heap.size:=(sq bw.size);go_wp2_with fail
 refine (ui.out _ bL).mono ?_;rintro e w5 ⟨rfl,bs⟩;obtain ⟨py,ox⟩:=ay bs;have Es:w.heap.size < w5.heap.size:=(sq bs.size);have IV:w.heap.size+1 < w5.heap.size:=(sq bs.size);have ud:w3.heap.size < w5.heap.size:=(sq bs.size);go_wp2_with fail
 refine (LZ a p.az x.V[k].az _ ha kQ).mono ?_;rw [H1.out];rintro e w6 ⟨rfl,cD⟩;obtain ⟨AI,Xe⟩:=ay cD;have lL:w.heap.size < w6.heap.size:=(sq cD.size);have Mg:w.heap.size+1 < w6.heap.size:=(sq cD.size);have Mh:w3.heap.size < w6.heap.size:=(sq cD.size);go_wp2_with fail
 refine (LZ b p.mem x.V[k].mem _ U lg).mono ?_
 exact Cu):P:=h
theorem Cz {P:Prop} (h:P:=by
 have HC:=I hc;have HN:=I X;clear hc X;go_wp2_with fail
 refine (sx x _ _ _ (aZ h b9) HW.out).mono ?_;rintro e w1 ⟨lj,G1,rfl,jX,bp,hRM⟩;obtain ⟨dP,eT⟩:=ay bp;have wE:w.heap.size < w1.heap.size:=sq bp.size;have wF:w.heap.size+1 < w1.heap.size:=sq bp.size;have wH:w.heap.size+1+1 < w1.heap.size:=sq bp.size;have cP:=jX.rd;obtain ⟨dG,bV,xq,dS,dJ,Bz,aD,hG1,oO,tq,wI,iV,gI,iW⟩:=aO cP;subst aD;clear hG1 cP;go_wp2_with fail
 refine (CA u _ _ _ (aZ h' b9) HU.out).mono ?_;rw [HN.out];rintro e w2 ⟨wJ,G2,rfl,bM,aq⟩;obtain ⟨cj,cN⟩:=ay aq;have wK:w.heap.size < w2.heap.size:=sq aq.size;have wN:w.heap.size+1 < w2.heap.size:=sq aq.size;have wR:w.heap.size+1+1 < w2.heap.size:=sq aq.size;have wS:w1.heap.size < w2.heap.size:=sq aq.size;have i8:=bM.rd;obtain ⟨bY,bZ,iq,eU,eX,jV,bg,bn,dK,aD,hG2,jW,dA,kQ,lg,lG,iO,bK⟩:=dL i8;subst aD;clear hG2 i8;go_wp2_with fail
 refine (qM x _ _ _ (aZ h b9) HW.out).mono ?_;rw [HC.out];rintro e w3 ⟨rfl,bd⟩;obtain ⟨dx,hf3⟩:=ay bd;have wT:w.heap.size < w3.heap.size:=sq bd.size;have wV:w.heap.size+1 < w3.heap.size:=sq bd.size;have wX:w.heap.size+1+1 < w3.heap.size:=sq bd.size;have wY:w1.heap.size < w3.heap.size:=sq bd.size;have wZ:w2.heap.size < w3.heap.size:=sq bd.size;have HI:=I fc;clear fc;go_wp2_with fail
 refine (xa x _ _ n.name _ (aZ h b9) Ji.out).mono ?_;rw [HI.out];rintro e w4 ⟨rfl,bw⟩;obtain ⟨fa,hf4⟩:=ay bw;have CB:w.heap.size < w4.heap.size:=sq bw.size;have CC:w.heap.size+1 < w4.heap.size:=sq bw.size;have CD:w.heap.size+1+1 < w4.heap.size:=sq bw.size;have CE:w1.heap.size < w4.heap.size:=sq bw.size;have CF:w2.heap.size < w4.heap.size:=sq bw.size;have mm:Hid (am w4 (w.heap.size+1+1+1) x [.slice dG x.V.length bV,.slice dS x.O.length dJ,.int .i64 x.next,.int .i64 x.weights.pack,.int .i64 x.weights.af,.int .i64 x.weights.an] G1):=I ((((((jX.mono S').alloc _).ext aq).alloc _).ext bd).ext bw);clear jX bM hRM;go_wp2_with fail
 try dsimp only
 iterate 60 (first | go_step | skip)
 refine bodyPost_ret (v:=.tuple #[.agg #[.slice dG x.V.length bV,.slice dS x.O.length dJ,.int .i64 x.next,.int .i64 x.weights.pack,.int .i64 x.weights.af,.int .i64 x.weights.an],.int .i64 4]) (by simp [results,Tryz.results18,go_sem, *]) rfl ?_
 exact xb):P:=h
theorem CH {P:Prop} (h:P:=by
 exact Co):P:=h
theorem xc {P:Prop} (h:P:=by
 have rr:=HS.out.cS.lt;go_wp2_with fail
 refine (Mj x _ _ v3 (Kj HX.out HS.out.aE) mE dv xd hv).mono ?_;rintro e w8 ⟨Mk,G8,rfl,sV,gH⟩;have T8:=HS.out.ext gH;have SY:=sV;obtain ⟨pB,aHA,aJp,aIC,aID,aBA,aHF,aHG,aJF,ayd,hF9,aye,aJq,aAR,aAS,aDs,aBB,aJG⟩:=dL sV.rd;subst ayd;clear hF9 sV;obtain ⟨r0,r1,r2,r3,r4,r5,r6⟩:=pC T8.rb;have rf:=T8.rb.fz;have rl:=T8.rb.lt;have mm:=I SY;have AN:=I T8;have Ml:w.heap.size+1 < v3.heap.size:=HS.out.rb.lt;clear SY T8 gH;go_wp2_with fail
 try dsimp only
 iterate 60 (first | go_step | skip)
 refine bodyPost_ret (v:=.tuple #[.agg #[.string x.name,.slice pB x.labels.length aHA,.int .i64 x.az,.int .i64 x.mem,.int .i64 x.aw,.slice aIC x.ai.length aID,.slice aHF x.ae.length aHG],.bool false]) (by simp [results,Tryz.results9,go_sem, *]) rfl ⟨[.string x.name,.slice pB x.labels.length aHA,.int .i64 x.az,.int .i64 x.mem,.int .i64 x.aw,.slice aIC x.ai.length aID,.slice aHF x.ae.length aHG],G8,by rw [nx.out];try rfl,?_,?_⟩
 ·rw [nx.out];refine am.mono (B:=v3.heap.size) ?_ J;exact AP
 ·exact Kk):P:=h
theorem CI {P:Prop} (h:P:=by
 have HC:=I hc;have HN:=I X;clear hc X;go_wp2_with fail
 refine (sx x _ _ _ (aZ h b9) HW.out).mono ?_;rintro e w1 ⟨lj,G1,rfl,jX,bp,hRM⟩;obtain ⟨dP,eT⟩:=ay bp;have wE:w.heap.size < w1.heap.size:=sq bp.size;have wF:w.heap.size+1 < w1.heap.size:=sq bp.size;have wH:w.heap.size+1+1 < w1.heap.size:=sq bp.size;have cP:=jX.rd;obtain ⟨dG,bV,xq,dS,dJ,Bz,aD,hG1,oO,tq,wI,iV,gI,iW⟩:=aO cP;subst aD;clear hG1 cP;go_wp2_with fail
 refine (CA u _ _ _ (aZ h' b9) HU.out).mono ?_;rw [HN.out];rintro e w2 ⟨wJ,G2,rfl,bM,aq⟩;obtain ⟨cj,cN⟩:=ay aq;have wK:w.heap.size < w2.heap.size:=sq aq.size;have wN:w.heap.size+1 < w2.heap.size:=sq aq.size;have wR:w.heap.size+1+1 < w2.heap.size:=sq aq.size;have wS:w1.heap.size < w2.heap.size:=sq aq.size;have i8:=bM.rd;obtain ⟨bY,bZ,iq,eU,eX,jV,bg,bn,dK,aD,hG2,jW,dA,kQ,lg,lG,iO,bK⟩:=dL i8;subst aD;clear hG2 i8;go_wp2_with fail
 refine (qM x _ _ _ (aZ h b9) HW.out).mono ?_;rw [HC.out];rintro e w3 ⟨rfl,bd⟩;obtain ⟨dx,hf3⟩:=ay bd;have wT:w.heap.size < w3.heap.size:=sq bd.size;have wV:w.heap.size+1 < w3.heap.size:=sq bd.size;have wX:w.heap.size+1+1 < w3.heap.size:=sq bd.size;have wY:w1.heap.size < w3.heap.size:=sq bd.size;have wZ:w2.heap.size < w3.heap.size:=sq bd.size;have mm:Hid (am w3 (w.heap.size+1+1+1) x [.slice dG x.V.length bV,.slice dS x.O.length dJ,.int .i64 x.next,.int .i64 x.weights.pack,.int .i64 x.weights.af,.int .i64 x.weights.an] G1):=I (((((jX.mono S').alloc _).ext aq).alloc _).ext bd);clear jX bM hRM;go_wp2_with fail
 try dsimp only
 iterate 60 (first | go_step | skip)
 refine bodyPost_ret (v:=.tuple #[.agg #[.slice dG x.V.length bV,.slice dS x.O.length dJ,.int .i64 x.next,.int .i64 x.weights.pack,.int .i64 x.weights.af,.int .i64 x.weights.an],.int .i64 1]) (by simp [results,Tryz.results18,go_sem, *]) rfl ?_
 exact xb):P:=h
theorem CK {P:Prop} (h:P:=by
 exact vL):P:=h
theorem CL {P:Prop} (h:P:=by
 exact vW):P:=h
theorem ej {P:Prop} (h:P:=by
 exact ss):P:=h
theorem CM {P:Prop} (h:P:=by
 have HC:=I hc;have HN:=I X;clear hc X;go_wp2_with fail
 refine (sx x _ _ _ (aZ h b9) HW.out).mono ?_;rintro e w1 ⟨lj,G1,rfl,jX,bp,hRM⟩;obtain ⟨dP,eT⟩:=ay bp;have wE:w.heap.size < w1.heap.size:=sq bp.size;have wF:w.heap.size+1 < w1.heap.size:=sq bp.size;have wH:w.heap.size+1+1 < w1.heap.size:=sq bp.size;have cP:=jX.rd;obtain ⟨dG,bV,xq,dS,dJ,Bz,aD,hG1,oO,tq,wI,iV,gI,iW⟩:=aO cP;subst aD;clear hG1 cP;go_wp2_with fail
 refine (Kl u _ _ _ (aZ h' b9) HU.out).mono ?_;rw [HN.out];rintro e w2 ⟨wJ,G2,rfl,bM,aq⟩;obtain ⟨cj,cN⟩:=ay aq;have wK:w.heap.size < w2.heap.size:=sq aq.size;have wN:w.heap.size+1 < w2.heap.size:=sq aq.size;have wR:w.heap.size+1+1 < w2.heap.size:=sq aq.size;have wS:w1.heap.size < w2.heap.size:=sq aq.size;have i8:=bM.rd;obtain ⟨bY,bZ,iq,wP,wQ,Qe,aD,hG2,jW,dA,kQ,lg,Nh,Bd⟩:=iy i8;subst aD;clear hG2 i8;go_wp2_with fail
 refine (qM x _ _ _ (aZ h b9) HW.out).mono ?_;rw [HC.out];rintro e w3 ⟨rfl,bd⟩;obtain ⟨dx,hf3⟩:=ay bd;have wT:w.heap.size < w3.heap.size:=sq bd.size;have wV:w.heap.size+1 < w3.heap.size:=sq bd.size;have wX:w.heap.size+1+1 < w3.heap.size:=sq bd.size;have wY:w1.heap.size < w3.heap.size:=sq bd.size;have wZ:w2.heap.size < w3.heap.size:=sq bd.size;have mm:Hid (am w3 (w.heap.size+1+1+1) x [.slice dG x.V.length bV,.slice dS x.O.length dJ,.int .i64 x.next,.int .i64 x.weights.pack,.int .i64 x.weights.af,.int .i64 x.weights.an] G1):=I (((((jX.mono S').alloc _).ext aq).alloc _).ext bd);clear jX bM hRM;go_wp2_with fail
 try dsimp only
 iterate 60 (first | go_step | skip)
 refine bodyPost_ret (v:=.tuple #[.agg #[.slice dG x.V.length bV,.slice dS x.O.length dJ,.int .i64 x.next,.int .i64 x.weights.pack,.int .i64 x.weights.af,.int .i64 x.weights.an],.int .i64 1]) (by simp [results,Tryz.results145,go_sem, *]) rfl ?_
 exact CN):P:=h
theorem CP {P:Prop} (h:P:=by
 have cI:(eH k (cT x n) x.O).length = x.O.length+1:=by rw [xe]
 obtain ⟨A9,c9,F9,hv9,SY,hF9⟩:=am.Km (xs:=eH k (cT x n) x.O) Kn (lk.out.bm (fun y hy=>oz.out y (jS.out y hy).1) J) (fun q hq hm=>by have:=(lm.out.lt q hq).1;have:=(jS.out q hm).1;omega);rw [cI] at hv9 SY;simp only [Value.slice.injEq,true_and] at hv9;obtain ⟨rfl,rfl⟩:=hv9
 have ul:=I (am.Kp (sy.out.bm (fun y hy=>oz.out y (by have:=oA.out y hy;omega)) J) SY (fun y hm hy=>by
  rcases hF9 y hy with h9 | h9
  ·exact (jS.out y h9).2.2 hm
  ·have:=(lm.out.lt y h9).1;have:=oA.out y hm;omega) (show bt (x.next+1) by unfold bt;omega) iV gI iW)
 have oB:=I (show ∀y∈Gh++F9,y≠w1.heap.size from fun y hy=>by
  rcases List.mem_append.1 hy with hy | hy
  ·have:=oA.out y hy;omega
  ·rcases hF9 y hy with h9 | h9
   ·exact (jS.out y h9).2.1
   ·have:=(lm.out.lt y h9).1;omega)
 have XA:=pj.out;clear SY hF9;try dsimp only
 iterate 90 (first | go_step | skip)
 refine bodyPost_ret (v:=.tuple #[.agg #[.slice dG x.V.length bV,.slice (some ⟨g8,0,none⟩) (x.O.length+1) p8,.int .i64 (x.next+1),.int .i64 x.weights.pack,.int .i64 x.weights.af,.int .i64 x.weights.an],.int .i64 0]) (by simp [results,Tryz.results18,go_sem, *]) rfl ?_;rw [HF.out,← sz.out];first | refine ⟨[.slice dG x.V.length bV,.slice (some ⟨g8,0,none⟩) (x.O.length+1) p8,.int .i64 (x.next+1),.int .i64 x.weights.pack,.int .i64 x.weights.af,.int .i64 x.weights.an],Gh++F9,rfl,?_,?_⟩ | refine ⟨[.slice dG x.V.length bV,.slice (some ⟨g8,0,none⟩) (x.O.length+1) p8,.int .i64 (x.next+1),.int .i64 x.weights.pack,.int .i64 x.weights.af,.int .i64 x.weights.an],rfl,⟨Gh++F9,?_⟩,?_⟩
 ·exact sA
 ·exact pD):P:=h
theorem CR {P:Prop} (h:P:=by
 have HF:=I (show ij x u = (x,1) by unfold ij;rw [hc,ik];simp);have HC:=I hc;have Du:=I ik;clear hc ik;go_enter Tryz.func109,Tryz.ntmps109;go_wp2_with fail
 refine (BO x _ _ _ (aZ h b9) HW.out).mono ?_;rintro e w1 ⟨lj,G1,rfl,jX,bp⟩;have cP:=jX.rd;obtain ⟨dG,bV,xq,dS,dJ,Bz,aD,hG1,oO,tq,wI,iV,gI,iW⟩:=aO cP;subst aD;clear hG1 cP;obtain ⟨dP,eT⟩:=ay bp;have VQ:w.heap.size < w1.heap.size:=sq bp.size;have lN:w.heap.size+1 < w1.heap.size:=sq bp.size;have Rb:w.heap.size+1+1 < w1.heap.size:=sq bp.size;have fs:=jX.lt;go_wp2_with fail
 refine (qM x _ _ _ (aZ h b9) HW.out).mono ?_;rw [HC.out];rintro e w2 ⟨rfl,aq⟩;obtain ⟨cj,cN⟩:=ay aq;have VR:w.heap.size < w2.heap.size:=sq aq.size;have lO:w.heap.size+1 < w2.heap.size:=sq aq.size;have Rc:w.heap.size+1+1 < w2.heap.size:=sq aq.size;have VT:w1.heap.size < w2.heap.size:=sq aq.size;have bM:am w2 (w.heap.size+1+1+1) x [.slice dG x.V.length bV,.slice dS x.O.length dJ,.int .i64 x.next,.int .i64 x.weights.pack,.int .i64 x.weights.af,.int .i64 x.weights.an] G1:=((jX.mono S').alloc _).ext aq
 exact CS):P:=h
theorem CT {P:Prop} (h:P:=by
 have h2:jo w6 [ns[0]] wB G6:=lM.frame (fun b U=>fb.block b (lM.lt b U) (fun hv=>by
  have h4:=jK b hv.symm;rcases Mm b U with h | h
  ·simp only [World.size_alloc] at *;omega
  ·have:=AR.out.lt b h;omega)) fb.size
 have h3:=Z.append h2;have XP:(ns.tail++[ns[0]]).length = ns.length - 1+[ns[0]].length:=by simp
 obtain ⟨A6,c6,F6,hv6,hS6,hF6⟩:=Sl.pA (xs:=ns.tail++[ns[0]]) (e:=70) (v:=v6) (by rw [XP];exact R6) h3;have cD:∀y∈F6,y≠w.heap.size∧y≠w2.heap.size:=fun y hy=>by
  rcases hF6 y hy with h | h
  ·rcases List.mem_append.1 h with h | h
   ·have:=uo.out.base y h;omega
   ·rcases Mm y h with h | h
    ·simp only [World.size_alloc] at *;omega
    ·exact BN.out y h
  ·have:=(R6.lt y h).1;omega
 have uc:rd w6 (ns.tail++[ns[0]]) [.slice A6 (ns.tail++[ns[0]]).length c6] F6:=hS6;rw [rK] at hv6 uc;subst hv6;have Y6:=kj.out.ext ie;have k6:=Y6.cell (i:=5) (u:=.slice (some ⟨bl,ol,none⟩) ns.length cn) rfl;have f6:=Y6.fz 5;refine hK _ _ ie ?_;try simp only [Act.put,pz]
 clear hK K;refine b5 10 M U' M (fun K hK=>?_);go_simp;refine hK _ _ ie ?_;try simp only [Act.put,pz]
 clear hK K;refine gT U' ?_;refine bP 11 M U' M (fun K hK=>?_);go_simp;refine hK _ _ trivial ?_;try simp only [Act.put,pz]
 clear hK K;refine nR U' ?_
 exact HK _ _ ⟨A6,c6,F6,_,_,_,_,_,_,_,_,_,_,_,uk,(nN.lq _ ie).setCell (p:=⟨w2.heap.size,5,none⟩) (List.mem_singleton.2 rfl) _,Y6.put 5 _,⟨bb.frame uc (fun b U=>Below.heap_setCell _ _ _ _ (by have:=cD b U;dsimp only;omega)) ew,fun b _=>Nat.zero_le b⟩,cD⟩):P:=h
theorem CU {P:Prop} (h:P:=by
 rintro e w1 ⟨ds,G,rfl,hO,bp⟩;have hR:=hO.rd;obtain ⟨kM,kN,ND,ny,nC,TD,aD,hGr,NG,TF,TG,xI,uD,xJ⟩:=aO hR;subst aD;clear hGr hR;have cq:=bp.size;simp at cq;have XB:oG w1 (w.heap.size+1+1) [.slice none 0 0,.slice none 0 0,.int .i64 0,.int .i64 0,.int .i64 0,.int .i64 0]:=oG.ext (oG.ue w _ _ [.slice none 0 0,.slice none 0 0,.int .i64 0,.int .i64 0,.int .i64 0,.int .i64 0] 29) bp;have HO:=I (hO.mono (B':=w.heap.size+1+1+1) S');have aq:Below w.heap.size w w1:=ah b9 bp;clear hO bp h;try dsimp only
 iterate 8 go_step
 refine ki 29 _ _ rfl (w.heap.size+1+1) 0 [.slice kM R.V.length kN,.slice ny R.O.length nC,.int .i64 R.next,.int .i64 R.weights.pack,.int .i64 R.weights.af,.int .i64 R.weights.an] [.slice none 0 0,.slice none 0 0,.int .i64 0,.int .i64 0,.int .i64 0,.int .i64 0] rfl rfl XB S' U' et ?_;intro w2 YB OB;replace YB:oG w2 (w.heap.size+1+1) [.slice kM R.V.length kN,.slice ny R.O.length nC,.int .i64 R.next,.int .i64 R.weights.pack,.int .i64 R.weights.af,.int .i64 R.weights.an]:=YB;try dsimp only [Act.put]
 go_wp2;refine bodyPost_ret (v:=.tuple #[.agg #[.slice kM R.V.length kN,.slice ny R.O.length nC,.int .i64 R.next,.int .i64 R.weights.pack,.int .i64 R.weights.af,.int .i64 R.weights.an],.int .i64 cd]) (vZ Tryz.results104 _ (w.heap.size+1+1) [.slice kM R.V.length kN,.slice ny R.O.length nC,.int .i64 R.next,.int .i64 R.weights.pack,.int .i64 R.weights.af,.int .i64 R.weights.an] _ _ rfl rfl YB Tryz.underlying29 rfl U') rfl ?_
 exact Cr):P:=h
theorem CW {P:Prop} (h:P:=by
 have cI:(eH k n x.V).length = x.V.length+1:=by rw [xe]
 obtain ⟨A9,c9,F9,hv9,SY,hF9⟩:=am.Km (xs:=eH k n x.V) Kn (lk.out.bm (fun y hy=>oz.out y (jS.out y hy).1) J) (fun q hq hm=>by have:=(lm.out.lt q hq).1;have:=(jS.out q hm).1;omega);rw [cI] at hv9 SY;simp only [Value.slice.injEq,true_and] at hv9;obtain ⟨rfl,rfl⟩:=hv9
 have ul:=I (am.Kp SY (sy.out.bm (fun y hy=>oz.out y (by have:=mF.out y hy;omega)) J) (fun y hy=>by
  rcases hF9 y hy with h9 | h9
  ·exact (jS.out y h9).2.2
  ·have:=(lm.out.lt y h9).1;exact fun hm=>by have:=mF.out y hm;omega) wI iV gI iW)
 have oB:=I (show ∀y∈F9++Gp,y≠w1.heap.size from fun y hy=>by
  rcases List.mem_append.1 hy with hy | hy
  ·rcases hF9 y hy with h9 | h9
   ·exact (jS.out y h9).2.1
   ·have:=(lm.out.lt y h9).1;omega
  ·have:=mF.out y hy;omega)
 have XA:=pj.out;clear SY hF9;try dsimp only
 iterate 60 (first | go_step | skip)
 refine bodyPost_ret (v:=.tuple #[.agg #[.slice (some ⟨g8,0,none⟩) (x.V.length+1) p8,.slice dS x.O.length dJ,.int .i64 x.next,.int .i64 x.weights.pack,.int .i64 x.weights.af,.int .i64 x.weights.an],.int .i64 0]) (by simp [results,Tryz.results145,go_sem, *]) rfl ?_;rw [HF.out,← sz.out];refine ⟨[.slice (some ⟨g8,0,none⟩) (x.V.length+1) p8,.slice dS x.O.length dJ,.int .i64 x.next,.int .i64 x.weights.pack,.int .i64 x.weights.af,.int .i64 x.weights.an],F9++Gp,rfl,?_,?_⟩
 ·exact sA
 ·exact pD):P:=h
theorem sB {P:Prop} (h:P:=by
 refine aN ?_;intro wn X;replace X:=X.out;go_wp2;refine ⟨⟨s1++[z],s2,jj+1,I AS,N',I Re,I (fun z' hz=>?_),ah bN X⟩,by simp [intOf];omega⟩;rcases List.mem_append.1 hz with hz | hz
 ·exact HN.out z' hz
 ·rw [List.mem_singleton.1 hz];exact HL.out):P:=h
theorem sC {P:Prop} (h:P:=by
 rw [HF.out]
 first
  | refine ⟨[.slice dG x.V.length bV,.slice dS x.O.length dJ,.int .i64 x.next,.int .i64 x.weights.pack,.int .i64 x.weights.af,.int .i64 x.weights.an],G1,rfl,?_,?_⟩
  | refine ⟨[.slice dG x.V.length bV,.slice dS x.O.length dJ,.int .i64 x.next,.int .i64 x.weights.pack,.int .i64 x.weights.af,.int .i64 x.weights.an],rfl,⟨G1,?_⟩,?_⟩
 ·try dsimp only
  refine am.mono (B:=w.heap.size+1+1) ?_ J;have hO:=HO.out;exact Rf
 ·have hB:=HB.out
  exact Rg):P:=h
theorem sE {P:Prop} (h:P:=by
 go_enter Tryz.func20,Tryz.ntmps20;go_wp2_with fail
 rw [oC.out]
 go_wp2_with (first
  | (go_at_call 48;refine (kH x.next 1 1000000000 _).mono ?_;rw [Jf.out];rintro e w1 ⟨rfl,oD⟩;simp only [← oD];clear oD w1)
  | (go_at_call 49;refine (pW x.weights.pack x.weights.af x.weights.an _).mono ?_;rw [Du.out];rintro e w2 ⟨rfl,aq⟩;obtain ⟨cj,cN⟩:=ay aq;have cC:w.heap.size < w2.heap.size:=(sq aq.size)))
 go_ret
 exact ⟨by rw [HF.out];rfl,bL⟩):P:=h
theorem sF {P:Prop} (h:P:=by
 rw [HF.out]
 first
  | refine ⟨[.slice dG x.V.length bV,.slice dS x.O.length dJ,.int .i64 x.next,.int .i64 x.weights.pack,.int .i64 x.weights.af,.int .i64 x.weights.an],G1,rfl,?_,?_⟩
  | refine ⟨[.slice dG x.V.length bV,.slice dS x.O.length dJ,.int .i64 x.next,.int .i64 x.weights.pack,.int .i64 x.weights.af,.int .i64 x.weights.an],rfl,⟨G1,?_⟩,?_⟩
 ·try dsimp only
  refine am.mono (B:=w.heap.size+1+1) ?_ J;exact Rh
 ·exact pD):P:=h
theorem CX {P:Prop} (h:P:=by
 try dsimp only [Act.put]
 iterate 5 go_step
 refine ki 29 _ _ rfl (w.heap.size+1+1) 0 [.slice kM R.V.length kN,.slice ny R.O.length nC,.int .i64 R.next,.int .i64 R.weights.pack,.int .i64 R.weights.af,.int .i64 R.weights.an] [.slice none 0 0,.slice none 0 0,.int .i64 0,.int .i64 0,.int .i64 0,.int .i64 0] rfl rfl Ri S' U' et ?_;intro w3 ZB OZ;replace ZB:oG w3 (w.heap.size+1+1) [.slice kM R.V.length kN,.slice ny R.O.length nC,.int .i64 R.next,.int .i64 R.weights.pack,.int .i64 R.weights.af,.int .i64 R.weights.an]:=ZB;try dsimp only [Act.put]
 go_wp2;refine bodyPost_ret (v:=.tuple #[.agg #[.slice kM R.V.length kN,.slice ny R.O.length nC,.int .i64 R.next,.int .i64 R.weights.pack,.int .i64 R.weights.af,.int .i64 R.weights.an],.int .i64 cd]) (vZ Tryz.results66 _ (w.heap.size+1+1) [.slice kM R.V.length kN,.slice ny R.O.length nC,.int .i64 R.next,.int .i64 R.weights.pack,.int .i64 R.weights.af,.int .i64 R.weights.an] _ _ rfl rfl ZB Tryz.underlying29 rfl U') rfl ?_
 exact ⟨[.slice kM R.V.length kN,.slice ny R.O.length nC,.int .i64 R.next,.int .i64 R.weights.pack,.int .i64 R.weights.af,.int .i64 R.weights.an],G,rfl,(((HO.out.only OB (fun b U=>by have:=CY.out b U;omega))).only OZ (fun b U=>by have:=HO.out.base b U;omega)).mono (B':=w.heap.size) J,ur (ur HB.out OB J) OZ J⟩):P:=h
theorem xf {P:Prop} (h:P:=by
 intro wq hq;have dE:=(aB hq).1;have lJ:=(aB hq).2;go_simp
 first
  | exact ⟨hq,rfl⟩
  | (refine (Kq x p _ _ _ _ z _ (aJ Rj.out (ah pk.out hq)) (aJ Rk.out (ah pk.out hq)) HW.out Uc.out).mono ?_;rintro e wz ⟨rfl,eV⟩;rw [CZ.out];exact ⟨rfl,aI hq eV⟩)
  | (simp only [↓IntWalk.iteOmega];exact ⟨hq,rfl⟩)):P:=h
theorem C0 {P:Prop} (h:P:=by
 have HF:=I (show oH nm x p = 3 by rw [pE.out,if_neg (by simp [hS]),if_neg hu,if_pos eT]);have HS:=I hS;clear hS;have H1:=I he1;clear he1;go_wp2_with fail
 refine (wj.out _ bL).mono ?_;rw [HS.out];rintro e w4 ⟨rfl,bw⟩;obtain ⟨fa,hf4⟩:=ay bw;have Wy:w.heap.size < w4.heap.size:=(sq bw.size);have AJ:w.heap.size+1 < w4.heap.size:=(sq bw.size);have Ct:w3.heap.size < w4.heap.size:=(sq bw.size);go_wp2_with fail
 refine (ui.out _ bL).mono ?_;rintro e w5 ⟨rfl,bs⟩;obtain ⟨py,ox⟩:=ay bs;have Es:w.heap.size < w5.heap.size:=(sq bs.size);have IV:w.heap.size+1 < w5.heap.size:=(sq bs.size);have ud:w3.heap.size < w5.heap.size:=(sq bs.size);go_wp2_with fail
 refine (oQ a p.az _ ha kQ).mono ?_;rw [H1.out];rintro e w6 ⟨rfl,cD⟩;obtain ⟨AI,Xe⟩:=ay cD;have lL:w.heap.size < w6.heap.size:=(sq cD.size);have Mg:w.heap.size+1 < w6.heap.size:=(sq cD.size);have Mh:w3.heap.size < w6.heap.size:=(sq cD.size)
 exact xh):P:=h
theorem xi {P:Prop} (h:P:=by
 obtain ⟨u,b⟩:=R;rintro e w5 ⟨A6,c6,G6,rfl,iD,cD,Jg⟩;have fp:=I (fd.out.ext cD);have mH:=I (kz.out.ext cD);have Rl:=I (C1.out.ext cD);replace Jg:=I Jg;have iF:=I (hZ.out.iJ cD J);replace iD:=I (iD.mono (B':=w.heap.size) J);have Mn:(k:Int)+1≤2:=by omega
 exact C3):P:=h
theorem C4 {P:Prop} (h:P:=by
 have eO:∀y,y < wn.heap.size→w8.heap[y]? = wn.heap[y]?:=fun y hy=>(cU.block y J (fun e=>by have:=(nK.lt y e.symm).1;omega)).trans (bF.block y hy);have pF:=cU.size;obtain ⟨FI,hOI,hFI⟩:=xj.out.ins xl.out XQ.out jj (by have:=dr.out;omega);have C5:∀y∈FI,y < wn.heap.size:=fun y hy=>by
  rcases hFI y hy with h9 | h9
  ·exact xj.out.lt y h9
  ·exact xl.out.lt y h9
 refine ⟨⟨k+1,N+1,g8,p8,_,FI,J,J,N',rfl,I ?_,I ?_,I (vP Le (B':=w.heap.size) ia.out.size),I ?_,I ?_,?_⟩,by simp [intOf];omega⟩
 ·rw [Jf.out,HI.out,xe,dr.out]
 ·intro j hj nz;exact C6
 ·rw [Jf.out,HI.out];exact hOI.bm (fun y hy=>eO y (C5 y hy)) J
 ·exact fun hm=>by have:=C5 g8 hm;omega
 ·exact Below.grown (ia.out.trans (bF.mono ia.out.size)) cU (by have:=ia.out.size;omega) (fun q hq=>by have:=(nK.lt q hq).1;have:=ia.out.size;omega)):P:=h
theorem C8 {P:Prop} (h:P:=by
 clear bi cA;have hK:=(ay aK).1;replace c0:=(hK _ _ cJ).trans c0;replace c1:=(hK _ _ cJ).trans c1;replace c2:=(hK _ _ cJ).trans c2;replace c3:=(hK _ _ cJ).trans c3;replace c4:=(hK _ _ cJ).trans c4;replace c5:=(hK _ _ cJ).trans c5;replace d0:=(hK _ _ cq).trans d0;replace d1:=(hK _ _ cq).trans d1;replace d2:=(hK _ _ cq).trans d2;replace d3:=(hK _ _ cq).trans d3;replace d4:=(hK _ _ cq).trans d4;replace d5:=(hK _ _ cq).trans d5;replace d6:=(hK _ _ cq).trans d6;clear hK;go_wp2;go_ret
 exact ⟨Al,cl,Gl,rfl,j0.mono J,b4⟩):P:=h
theorem C' {P:Prop} (h:P:=by
 have rr:=HS.out.cS.lt;go_wp2_with fail
 refine (Mo x _ _ v2 (Kj HX.out HS.out.aE) mE dv).mono ?_;rintro e w8 ⟨Mk,G8,rfl,sV,gH⟩;have T8:=HS.out.ext gH;have SY:=sV;obtain ⟨pB,aHA,aJp,aIQ,aIR,aCm,ayd,hF9,aye,aJq,aAR,aAS,aDQ,aCn⟩:=iy sV.rd;subst ayd;clear hF9 sV;obtain ⟨r0,r1,r2,r3,r4,r5⟩:=dy T8.rb;have rf:=T8.rb.fz;have rl:=T8.rb.lt;have mm:=I SY;have AN:=I T8;have Ml:w.heap.size+1 < v2.heap.size:=HS.out.rb.lt;clear SY T8 gH;go_wp2_with fail
 try dsimp only
 iterate 60 (first | go_step | skip)
 refine bodyPost_ret (v:=.tuple #[.agg #[.string x.name,.slice pB x.labels.length aHA,.int .i64 x.az,.int .i64 x.mem,.int .i64 x.ax,.slice aIQ x.aT.length aIR],.bool false]) (by simp [results,Tryz.results159,go_sem, *]) rfl ⟨[.string x.name,.slice pB x.labels.length aHA,.int .i64 x.az,.int .i64 x.mem,.int .i64 x.ax,.slice aIQ x.aT.length aIR],G8,by rw [nx.out];try rfl,?_,?_⟩
 ·rw [nx.out];refine am.mono (B:=v2.heap.size) ?_ J;exact AP
 ·exact Kk):P:=h
theorem Da {P:Prop} (h:P:=by
 rcases h0 with ⟨hl,⟨rfl,X⟩ | ⟨g,ar,dT,rfl,U,hh,gL,hm,cA,ht⟩⟩
 ·obtain rfl:xs = []:=List.eq_nil_of_length_eq_zero X;exact ⟨none,0,[],rfl,⟨Sl.nil w none 0 (Nat.zero_le _),List.nodup_nil,(fun b U=>by cases U),(fun b U=>by cases U)⟩,(fun b U=>by cases U)⟩
 ·have hg:g < w.heap.size:=by
   exact Db
  refine ⟨_,ar,g :: F,rfl,⟨⟨_,ar,F,ds,rfl,gL,hm,h.rd,.inr ⟨g,0,rfl,rfl,hg,fun j u hu=>?_⟩⟩,?_,?_,?_⟩,fun y hy=>?_⟩
  ·rw [Nat.zero_add,cell_of_row w g j dT e (0,0) hh];exact xm
  ·rw [List.nodup_cons];exact ⟨bX g rfl,h.nodup⟩
  ·intro b eo;rcases List.mem_cons.1 eo with rfl | eo
   ·exact U
   ·exact h.base b eo
  ·exact Dd
  ·rcases List.mem_cons.1 hy with rfl | hy
   ·exact .inr rfl
   ·exact .inl hy):P:=h
theorem xn {P:Prop} (h:P:=by
 rw [HF.out]
 first
  | refine ⟨[.slice dG x.V.length bV,.slice dS x.O.length dJ,.int .i64 x.next,.int .i64 x.weights.pack,.int .i64 x.weights.af,.int .i64 x.weights.an],G1,rfl,?_,?_⟩
  | refine ⟨[.slice dG x.V.length bV,.slice dS x.O.length dJ,.int .i64 x.next,.int .i64 x.weights.pack,.int .i64 x.weights.af,.int .i64 x.weights.an],rfl,⟨G1,?_⟩,?_⟩
 ·try dsimp only
  refine am.mono (B:=w.heap.size+1+1) ?_ J;have hO:=fT.out;exact Rm
 ·have hB:=Mp.out
  exact Rn):P:=h
theorem xo {P:Prop} (h:P:=by
 simp only [Value.slice.injEq,true_and] at kk;obtain ⟨Mq,dx⟩:=kk;subst Mq dx;have gc:=I hO3;clear hO3;go_wp2_with fail
 refine il.out.mono ?_;rw [ut.out];rintro e w4 ⟨rfl,bw⟩;have ib:=I bw;clear bw;go_wp2;go_ret2
 exact ⟨A2,c2,G3,by rw [HR.out];try rfl,by rw [HR.out];exact (gc.out.ext AT.out).ext ib.out,sH.out.trans (ib.out.mono sH.out.size),fun hh=>absurd hh De⟩):P:=h
theorem sI {P:Prop} (h:P:=by
 exact xh):P:=h
theorem pG {P:Prop} (h:P:=by
 exact Below.grown (ah lp.out bF) cU XR (fun q hq=>by have:=(nK.lt q hq).1;have:=lp.out.size;omega)):P:=h
theorem Dg {P:Prop} (h:P:=by
 rw [ut.out];rintro e w4 ⟨rfl,bw⟩;have ib:=I bw;clear bw;go_wp2;go_ret2
 exact ⟨some ⟨g,0,none⟩,ar,G4,by rw [HR.out,dr.out];try rfl,by rw [HR.out];exact kz.out.ext ib.out,sH.out.trans (ib.out.mono sH.out.size),fun _=>lr.out.ext ib.out⟩):P:=h
theorem Di {P:Prop} (h:P:=by
 exact CN):P:=h
theorem sJ {P:Prop} (h:P:=by
 exact ⟨[.slice kM x.V.length kN,.slice ny x.O.length nC,.int .i64 x.next,.int .i64 x.weights.pack,.int .i64 x.weights.af,.int .i64 x.weights.an],G,rfl,(HO.out.only OB (fun b U=>by have:=HO.out.base b U;omega)).mono (B':=w.heap.size) J,ur aq OB J⟩):P:=h
theorem Dj {P:Prop} (h:P:=by
 obtain ⟨k,hk,rfl,HN,aK⟩:=hrel;by_cases av:k < xs.length
 ·obtain ⟨b,o,ck,Fk,rfl,o9,hbs,hr,bA,hc⟩:=(Sl.ext (w':=wr) (A:=A) (c:=c) h aK).get av;obtain ⟨aD,su,ce,kP⟩:=vO hr;subst aD;obtain ⟨q0,q1⟩:=Kr 2 hc;clear hc;cases hp:JO key xs[k] with
  | true =>
    have HF:=I (XS av HN.out hp);unfold JO at hp;go_wp2;go_returns
    exact ⟨by rw [HF.out];rfl,bL⟩
  | false =>have Gn:=I (yQ av HN.out hp);unfold JO at hp;go_wp2;exact ⟨⟨k+1,J,N',Gn.out,bL⟩,by simp [intOf];omega⟩
 ·have bI:k = xs.length:=by omega
  subst bI;have X:=HN.out;rw [List.take_length] at X;have HF:=I (XT X);clear X;go_wp2;go_returns
  exact ⟨by rw [HF.out];rfl,bL⟩):P:=h
theorem Dk {P:Prop} (h:P:=by
 rw [HK.out];rintro e w2 ⟨rfl,aq⟩;obtain ⟨cj,cN⟩:=ay aq;have cC:w.heap.size < w2.heap.size:=by have:=aq.size;simp at this;omega
 have jK:w2.cell? ⟨w.heap.size,1,none⟩ = some (.int .i64 x.op):=by rw [cj _ _ S',cell_of_row _ _ _ _ _ _ (heap_alloc_new w _)];rfl
 have mj:w2.cell? ⟨w.heap.size,2,none⟩ = some (.slice jy x.values.length ji):=by rw [cj _ _ S',cell_of_row _ _ _ _ _ _ (heap_alloc_new w _)];rfl
 have eS:Below w.heap.size w w2:=bL;clear cj cN;have Ro:((x.values.length:Int) == 0) = true:=by simp [H0.out]
 go_wp2;go_ret
 exact ⟨by rw [HF.out];first | rfl | simp_all,eS⟩):P:=h
theorem xp {P:Prop} (h:P:=by
 rw [Nat.zero_add,cell_of_row w g j dT e (0,0) hh]
 exact xm):P:=h
theorem xr {P:Prop} (h:P:=by
 refine ⟨⟨c1,c2,F1,F2,rfl,rfl,Z.rd,h2.rd⟩,?_,?_,?_⟩
 ·rw [List.nodup_append];exact ⟨Z.nodup,h2.nodup,fun a ha b U e=>hd a ha (e ▸ U)⟩
 ·intro b U;rcases List.mem_append.1 U with U | U
  ·exact Z.base b U
  ·exact h2.base b U
 ·intro b U;rcases List.mem_append.1 U with U | U
  ·exact Z.plain b U
  ·exact h2.plain b U):P:=h
theorem xt {P:Prop} (h:P:=by
 simpa only [List.map_append,List.map_cons,List.map_nil,List.append_assoc,List.cons_append,List.nil_append] using this):P:=h
theorem Dl {P:Prop} (h:P:=by
 intro wq hq;have dE:=(aB hq).1;have lJ:=(aB hq).2;go_simp
 first
  | exact ⟨hq,rfl⟩
  | exact ⟨aQ hq _,rfl⟩
  | ((refine (TN y z _ _ _ _ wq (aJ xu.out (ah pk.out hq)) (aJ Rp.out (ah pk.out hq)) Rr.out Rs.out).mono ?_;rw [HL.out];rintro e wz ⟨rfl,eV⟩;exact ⟨rfl,aI hq eV⟩))
  | (simp only [↓IntWalk.iteOmega];exact ⟨hq,rfl⟩)):P:=h
theorem Dm {P:Prop} (h:P:=by
 intro wq hq;have dE:=(aB hq).1;have lJ:=(aB hq).2;go_simp
 first
  | exact ⟨hq,rfl⟩
  | exact ⟨aQ hq _,rfl⟩
  | ((refine (TN z y _ _ _ _ wq (aJ Rp.out (ah pk.out hq)) (aJ xu.out (ah pk.out hq)) Rs.out Rr.out).mono ?_;rw [HL.out];rintro e wz ⟨rfl,eV⟩;exact ⟨rfl,aI hq eV⟩))
  | (simp only [↓IntWalk.iteOmega];exact ⟨hq,rfl⟩)):P:=h
theorem lP {P:Prop} (h:P:=by
 go_wp2
 all_goals
  go_ret
  exact ⟨by first | rfl | simp_all,bL⟩):P:=h
theorem Dn {P:Prop} (h:P:=by
 intro wq hq;have dE:=(aB hq).1;have lJ:=(aB hq).2;go_simp
 first
  | exact ⟨hq,rfl⟩
  | exact ⟨aQ hq _,rfl⟩
  | ((refine (Rv z y _ _ _ _ wq (Mr pH.out Ks.out wq) (Mr pH.out Kt.out wq)).mono ?_;rw [HL.out];rintro e wz ⟨rfl,eV⟩;exact ⟨rfl,aI hq eV⟩))
  | (simp only [↓IntWalk.iteOmega];exact ⟨hq,rfl⟩)):P:=h
theorem Dr {P:Prop} (h:P:=by
 intro wq hq;have dE:=(aB hq).1;have lJ:=(aB hq).2;go_simp
 first
  | exact ⟨hq,rfl⟩
  | exact ⟨aQ hq _,rfl⟩
  | ((refine (Ry z y _ _ _ _ wq (Ms pH.out Ks.out wq) (Ms pH.out Kt.out wq)).mono ?_;rw [HL.out];rintro e wz ⟨rfl,eV⟩;exact ⟨rfl,aI hq eV⟩))
  | (simp only [↓IntWalk.iteOmega];exact ⟨hq,rfl⟩)):P:=h
theorem Ds {P:Prop} (h:P:=by
 intro wq hq;have dE:=(aB hq).1;have lJ:=(aB hq).2;go_simp
 first
  | exact ⟨hq,rfl⟩
  | exact ⟨aQ hq _,rfl⟩
  | (refine (N9 x p _ _ _ _ x.V[k].name _ (aJ h AU) (aJ h' AU) HW.out Uc.out).mono ?_;rw [pI.out];rintro e w2 ⟨rfl,aq⟩;exact ⟨rfl,aI hq aq⟩)
  | (simp only [↓IntWalk.iteOmega];exact ⟨hq,rfl⟩)):P:=h
theorem Dy {P:Prop} (h:P:=by
 intro wq hq;have dE:=(aB hq).1;have lJ:=(aB hq).2;go_simp
 first
  | exact ⟨hq,rfl⟩
  | exact ⟨aQ hq _,rfl⟩
  | (refine (Oa x p _ _ _ _ x.V[k].name _ (aJ h AU) (aJ h' AU) HW.out Uc.out).mono ?_;rw [pI.out];rintro e w2 ⟨rfl,aq⟩;exact ⟨rfl,aI hq aq⟩)
  | (simp only [↓IntWalk.iteOmega];exact ⟨hq,rfl⟩)):P:=h
theorem Dz {P:Prop} (h:P:=by
 intro wq hq;have dE:=(aB hq).1;have lJ:=(aB hq).2;go_simp
 first
  | exact ⟨hq,rfl⟩
  | exact ⟨aQ hq _,rfl⟩
  | (first | (refine (Rz.out _ AW).mono ?_;rintro e w2 ⟨rfl,aq⟩;exact ⟨rfl,aI hq aq⟩) | (refine (xv.out _ AW).mono ?_;rintro e w2 ⟨rfl,aq⟩;exact ⟨rfl,aI hq aq⟩))
  | (simp only [↓IntWalk.iteOmega];exact ⟨hq,rfl⟩)):P:=h
theorem DA {P:Prop} (h:P:=by
 intro wq hq;have dE:=(aB hq).1;have lJ:=(aB hq).2;go_simp
 first
  | exact ⟨hq,rfl⟩
  | exact ⟨aQ hq _,rfl⟩
  | (refine RA (v:=.bool (Aq z y)) ?_ hq;unfold Aq;repeat' split;all_goals simp [*])
  | (simp only [↓IntWalk.iteOmega];exact ⟨hq,rfl⟩)):P:=h
theorem DB {P:Prop} (h:P:=by
 intro wq hq;have dE:=(aB hq).1;have lJ:=(aB hq).2;go_simp
 first
  | exact ⟨hq,rfl⟩
  | exact ⟨aQ hq _,rfl⟩
  | (refine RA (v:=.bool (oP z y)) ?_ hq;unfold oP;repeat' split;all_goals simp [*])
  | (simp only [↓IntWalk.iteOmega];exact ⟨hq,rfl⟩)):P:=h
theorem xw {P:Prop} (h:P:=by
 simp only [Value.slice.injEq,true_and] at kk;obtain ⟨Mq,dx⟩:=kk;subst Mq dx;have HO:=I hO3;clear hO3 bi dz pl;go_wp2;go_ret2
 exact ⟨A2,c2,G3,by rw [HR.out];try rfl,by rw [HR.out];exact HO.out,aq,fun hh=>absurd hh De⟩):P:=h
theorem sK {P:Prop} (h:P:=by
 rw [Jf.out,HI.out,List.length_append,List.length_cons,HJ.out];have:=gU.out;omega):P:=h
theorem DC {P:Prop} (h:P:=by
 intro wq hq;have dE:=(aB hq).1;have lJ:=(aB hq).2;go_simp
 first
  | exact ⟨hq,rfl⟩
  | exact ⟨aQ hq _,rfl⟩
  | (first | (refine (RB.out _ (ah eS hq)).mono ?_;rintro e w3 ⟨rfl,bd⟩;exact ⟨rfl,aI hq bd⟩) | (refine (XU _ _ J J).mono ?_;rw [HM.out];rintro e w3 ⟨rfl,rfl⟩;exact ⟨rfl,hq⟩))
  | (simp only [↓IntWalk.iteOmega];exact ⟨hq,rfl⟩)):P:=h
theorem xy {P:Prop} (h:P:=by
 intro j u hu;rw [Addr.add];have hc:=cell_of_row (w.alloc (.cells cs.toArray e)) w.heap.size j cs.toArray e (0,0) (heap_alloc_new w _);split
 ·rename_i hj;subst hj;rw [hc];simpa using hu
 ·simp only [Nat.zero_add];rw [hc];simpa using hu):P:=h
theorem DD {P:Prop} (h:P:=by
 obtain ⟨jI,ky⟩:=ay X
 first
  | have i7:wr.heap.size < wn.heap.size:=(sq X.size)
  | have i7:wr.heap.size≤wn.heap.size:=(sq X.size)
 have bx:Below w0.heap.size w0 wn:=by first | exact ah aK X | exact ah (ak aK _) X
 first | have zq:=mG bi X | have zq:=mG (bi.alloc _) X
 go_wp2
 exact ⟨⟨k+1,_,J,N',(by rw [RC av HP.out];exact zq),(by rw [RC av HP.out];exact cA),bx⟩,by simp [intOf];omega⟩):P:=h
theorem DE {P:Prop} (h:P:=by
 refine ⟨0,[],[],Nat.zero_le _,rfl,?_,⟨rfl,rfl⟩,?_,ak (ak (aj _) _) _⟩
 ·have:=World.ownsRow_made (base:=w.heap.size+1) (e:=35) (size:=7) (w.alloc (.cells #[.slice bG x.V.length bD,.slice dn x.O.length bW,.int .i64 x.next,.int .i64 x.weights.pack,.int .i64 x.weights.af,.int .i64 x.weights.an] 29)) #[] 0 S' j4 rfl;simpa [F7] using this
 ·exact xz):P:=h
theorem DG {P:Prop} (h:P:=by
 intro wq hq;have dE:=(aB hq).1;have lJ:=(aB hq).2;go_simp
 first
  | exact ⟨hq,rfl⟩
  | (refine (XV y r _).mono ?_;rw [HL.out];rintro e wz ⟨rfl,eV⟩;exact ⟨rfl,aI hq eV⟩)
  | (simp only [↓IntWalk.iteOmega];exact ⟨hq,rfl⟩)):P:=h
theorem xA {P:Prop} (h:P:=by
 exact Db):P:=h
theorem DH {P:Prop} (h:P:=by
 exact ((((((((((((((U3.out.new (Nat.le_refl _) 0 _).new (Nat.le_refl _) 1 _).new (Nat.le_refl _) 2 _).new (Nat.le_refl _) 3 _).new (Nat.le_refl _) 4 _).new (Nat.le_refl _) 5 _).new (Nat.le_refl _) 6 _).new (Nat.le_refl _) 7 _).new (Nat.le_refl _) 8 _).new (Nat.le_refl _) 9 _).new (Nat.le_refl _) 10 _).new (Nat.le_refl _) 11 _).new (Nat.le_refl _) 12 _).new (Nat.le_refl _) 13 _)):P:=h
theorem DJ {P:Prop} (h:P:=by
 have ia:=I (ak xC.out (.cells ([.slice cZ y.V.length chostsn,.slice Apodsn y.O.length cpodsn,.int .i64 y.next,.int .i64 y.weights.pack,.int .i64 y.weights.af,.int .i64 y.weights.an]:List Value).toArray 29));clear nA hbs;go_wp2
 exact ⟨⟨k+1,N',J,ia.out⟩,by simp only [intOf];omega⟩):P:=h
theorem DM {P:Prop} (h:P:=by
 go_wp2
 exact ⟨⟨k+1,N,g,ar,J,J,N',rfl,I RE,by rw [Jf.out,HI.out];exact mG gY.out (ah bN X),ah eW.out (ah bN X)⟩,by simp [intOf];omega⟩):P:=h
theorem DO {P:Prop} (h:P:=by
 have RF:yR.length = 7:=bb.len kG;have h2:List.take 7 (yR++don) = yR:=by rw [List.take_append_of_le_length J,List.take_of_length_le J]
 have h3:=congrArg (List.take 7) hdc;rw [h2] at h3;rw [← h3] at kG
 exact kG):P:=h
theorem xD {P:Prop} (h:P:=by
 go_wp2
 exact ⟨⟨k+1,J,N',Gn.out,bL⟩,by simp [intOf];omega⟩):P:=h
theorem DP {P:Prop} (h:P:=by
 intro wq hq;have dE:=(aB hq).1;have lJ:=(aB hq).2;go_simp
 first
  | exact ⟨hq,rfl⟩
  | fail
  | (simp only [↓IntWalk.iteOmega];exact ⟨hq,rfl⟩)):P:=h
theorem DQ {P:Prop} (h:P:=by
 rcases List.mem_append.1 hz with hz | hz
 ·exact HIS.out z (by rw [HE.out];exact List.mem_append_left _ hz)
 ·rcases List.mem_cons.1 hz with rfl | hz
  ·exact av
  ·exact HIS.out z (by rw [HE.out];exact List.mem_append_right _ hz)):P:=h
theorem DS {P:Prop} (h:P:=by
 have dp:(xs++[y]).length = xs.length+1:=by simp
 exact ⟨⟨xs++[y],_,_,A6,c6,k+1,by rw [dp],N',J,by rw [dp];omega,I ⟨⟨by rw [dp];exact du,j5,by rw [dp];exact hne6⟩,by rw [ex];have:=pm.out;omega,fd.out.aE cD J,hZ.out.iJ cD J⟩⟩,by simp only [intOf];omega⟩):P:=h
theorem DT {P:Prop} (h:P:=by
 refine ⟨0,Nat.zero_le _,rfl,?_,?_,?_,ak (ak (aj _) _) _⟩
 ·exact (World.ownsRow_made w #[] 0 (Nat.le_refl _) j4 rfl).alloc _
 ·have:=World.ownsRow_made (base:=w.heap.size) (e:=3) (size:=1) (w.alloc (.cells #[] 3)) #[] 0 S' j4 rfl;simpa [iv] using this
 ·right;simp [Value.ownBlock]):P:=h
theorem DU {P:Prop} (h:P:=by
 go_wp2;go_ret
 exact ⟨_,rfl,U.size,⟨⟨0,q,_,heap_alloc_new _ _,J,by unfold bt;omega⟩,fun k hk=>(by
  obtain ⟨g,o,v,e,hg,hv,gm⟩:=cL k hk
  exact ⟨g,o,v,e,Nat.lt_of_lt_of_le hg U.size,((ak U _).cell (p:=⟨g,o+k,none⟩) hg).trans hv,gm⟩),X⟩,ak U _⟩):P:=h
theorem xF {P:Prop} (h:P:=by
 refine am.up (B':=B) (fun x:rZ=>(x.pack,x.af,x.an)) ?_ (Nat.le_refl _)
 exact am.cons (jL w p hp) (am.cons (jL w q hq) (am.cQ (jL w f hf)))):P:=h
theorem pJ {P:Prop} (h:P:=by
 rw [Bool.eq_iff_iff,decide_eq_true_eq,Wx,ByteArray.toList_eq,ByteArray.toList_eq]):P:=h
theorem xH {P:Prop} (h:P:=by
 have e:GX a b = none:=by unfold GX;rw [if_pos J]
 rw [e];go_enter Tryz.func130,Tryz.ntmps130;go_wp2;go_returns
 exact ⟨rfl,aj _⟩):P:=h
theorem DX {P:Prop} (h:P:=by
 go_wp2
 all_goals
  go_ret
  refine ⟨?_,rfl⟩;refine congrArg (fun b=>Ending.returned (Value.bool b)) ?_;show (_:Bool) = _;unfold GL;rw [Bool.eq_iff_iff];simp only [Bool.or_eq_true,Bool.and_eq_true,decide_eq_true_eq,Bool.false_eq_true,true_iff,false_iff]
  omega):P:=h
theorem xL {P:Prop} (h:P:=by
 have e:GX a b = none:=by unfold GX;rw [if_pos J]
 rw [e];go_enter Tryz.func90,Tryz.ntmps90;go_wp2;go_returns
 exact ⟨rfl,aj _⟩):P:=h
theorem pL {P:Prop} (h:P:=by
 rw [J5,← ByteArray.toList_eq,← ByteArray.toList_eq] at e
 simp [e] at h):P:=h
theorem DY {P:Prop} (h:P:=by
 have aq:Below w0.heap.size w0 w2:=lS (B:=w0.heap.size) zq fe bx (by have:=bx.size;omega)
 exact ⟨⟨k+1,_,J,N',(by rw [YM av HP.out,List.length_append];exact dB),(by rw [YM av HP.out];exact cA.Mt (rV zM)),aq⟩,by simp [intOf];omega⟩):P:=h
theorem sL {P:Prop} (h:P:=by
 rintro (Z | Z | Z)
 ·exact .inr (.inl Z)
 ·exact .inl Z
 ·exact .inr (.inr Z)):P:=h
theorem xN {P:Prop} (h:P:=by
 obtain ⟨g,o,v,e,hg,hc,hv⟩:=h3 k hk
 exact ⟨g,o,v,e,hg,(World.cell?_of_block (Below.heap_setCell _ _ _ _ bC)).trans hc,hv⟩):P:=h
theorem sM {P:Prop} (h:P:=by
 go_wp2;go_ret
 exact ⟨by rw [HF.out];first | rfl | simp_all,aK⟩):P:=h
theorem sP {P:Prop} (h:P:=by
 exact ⟨⟨g,0,none⟩,by simp [hc],rfl,fun q u hu=>by simp at hu⟩):P:=h
theorem oE {P:Prop} (h:P:=by
 rw [List.length_eq_zero_iff.1 h0] at hu
 simp at hu):P:=h
theorem sQ {P:Prop} (h:P:=by
 go_wp2;go_ret
 exact ⟨xs,A',c',G,rfl,fT.out,Du.out,dX.out,gd.out,pn.out⟩):P:=h
theorem DZ {P:Prop} (h:P:=by
 have Z:=hall e he U;have h0:=(mem_ready.1 hr).1;rw [xP] at Z;rcases Nat.lt_or_ge i al.size with h' | h'
 ·simp [h'] at h0 Z;rw [h0] at Z;cases Z
 ·simp [Array.getElem?_eq_none h'] at Z):P:=h
theorem Mu {P:Prop} (h:P:=by
 rw [Jf.out,HI.out];have:=vP Le (B':=w2.heap.size) lp.out.size
 simpa only [List.flatMap_append,List.flatMap_cons,List.append_assoc,List.cons_append,List.nil_append,gn] using this):P:=h
theorem Mv {P:Prop} (h:P:=by
 rw [Jf.out,HI.out];have:=vP Le (B':=w2.heap.size) lp.out.size
 simpa only [List.flatMap_append,List.flatMap_cons,List.append_assoc,List.cons_append,List.nil_append,gf] using this):P:=h
theorem D0 {P:Prop} (h:P:=by
 exact ((((((((((((((cV.out.bj av 0 _).bj av 1 _).bj av 2 _).bj av 3 _).bj av 4 _).bj av 5 _).bj av 6 _).bj av 7 _).bj av 8 _).bj av 9 _).bj av 10 _).bj av 11 _).bj av 12 _).bj av 13 _)):P:=h
theorem Mw {P:Prop} (h:P:=by
 rw [Jf.out,HI.out];have:=vP Le (B':=w2.heap.size) lp.out.size
 simpa only [List.flatMap_append,List.flatMap_cons,List.append_assoc,List.cons_append,List.nil_append,gM] using this):P:=h
theorem D1 {P:Prop} (h:P:=by
 have bI:k = xs.length:=by omega
 subst bI;have hf:GZ xs 0 = some s:=by rw [HS.out,List.drop_length];rfl
 have HF:=I hf;clear hf;go_wp2;go_returns
 exact ⟨by rw [HF.out];rfl,aK⟩):P:=h
theorem D2 {P:Prop} (h:P:=by
 rw [Jf.out,← HMAP.out,HE.out,List.map_append,List.map_append,List.map_cons,XW.out]
 exact (PY _ _ (fun z hz=>by obtain ⟨z0,cJ,rfl⟩:=List.mem_map.1 hz;exact HN.out z0 cJ) RG.out).symm):P:=h
theorem xR {P:Prop} (h:P:=by
 rcases Nat.lt_or_ge g w.heap.size with h5 | h5
 ·exact h5
 ·rw [Array.getElem?_eq_none h5] at h3;cases h3):P:=h
theorem xS {P:Prop} (h:P:=by
 unfold Lib.compareInt;rw [Bool.eq_iff_iff,decide_eq_true_eq,decide_eq_true_eq];repeat' split
 all_goals omega):P:=h
theorem D3 {P:Prop} (h:P:=by
 rw [xu.out,HN.out];refine am.mono (B:=w.heap.size+1+1+1) ?_ J
 exact (by repeat (first | with_reducible exact Ku.out | with_reducible refine am.setCell ?_ bC _))):P:=h
theorem D4 {P:Prop} (h:P:=by
 rw [List.pairwise_append,List.pairwise_cons];refine ⟨h0.1,⟨U,h0.2.1⟩,fun a D5 b eo=>?_⟩;rcases List.mem_cons.1 eo with rfl | eo
 ·exact ha a D5
 ·exact h0.2.2 a D5 b eo):P:=h
theorem D6 {P:Prop} (h:P:=by
 simp only [Bool.not_eq_true] at hp;simp only [hp,Bool.false_or,if_neg (show ¬false = true by simp)];rw [Bool.eq_iff_iff,decide_eq_true_eq,decide_eq_true_eq]
 split <;> omega):P:=h
theorem D8 {P:Prop} (h:P:=by
 refine ⟨0,[],Nat.zero_le _,rfl,?_,aY.nil _ _,ak (aj _) _⟩;rw [← xT.out];have:=World.ownsRow_made (base:=w0.heap.size) (e:=9) (size:=1) w0 #[] 0 S' j4 rfl
 simpa [Ar] using this):P:=h
theorem xU {P:Prop} (h:P:=by
 have h8:=oA.out y (Ie.out y h9)
 exact ⟨J,J,fun hm=>Mx.out y (Ie.out y h9) hm⟩):P:=h
theorem xV {P:Prop} (h:P:=by
 have h8:=mF.out y (Ie.out y h9)
 exact ⟨J,J,fun hm=>Mx.out y hm (Ie.out y h9)⟩):P:=h
theorem xX {P:Prop} (h:P:=by
 split
 ·rename_i h2;first | exact h2 | exact h2.2
 ·rename_i h2;rw [if_neg h2] at h;cases h):P:=h
theorem xY {P:Prop} (h:P:=by
 go_enter Tryz.func28,Tryz.ntmps28;go_wp2;go_ret
 exact ⟨by rw [hs.out];rfl,aj _⟩):P:=h
theorem D' {P:Prop} (h:P:=by
 rcases Nat.lt_or_gt_of_ne lR with Z | Z
 ·exact RH (List.pairwise_iff_getElem.1 h i j hi hj Z)
 ·exact (RH (List.pairwise_iff_getElem.1 h j i hj hi Z)).symm):P:=h
theorem Ea {P:Prop} (h:P:=by
 have gp:k = 0∨k = 1∨k = 2∨k = 3∨k = 4∨k = 5:=by omega
 rcases gp with rfl | rfl | rfl | rfl | rfl | rfl <;> exact ⟨_,po _ _ _ _ _ rfl,by decide⟩):P:=h
theorem sR {P:Prop} (h:P:=by
 exact (bx.cell (p:=⟨g,q,none⟩) bC).trans (rL.out q u hu)):P:=h
theorem xZ {P:Prop} (h:P:=by
 go_wp2;go_ret
 exact ⟨by rw [HG.out];first | rfl | simp_all,aK⟩):P:=h
theorem x2 {P:Prop} (h:P:=by
 go_enter Tryz.func63,Tryz.ntmps63;go_wp2;go_ret
 exact ⟨rfl,rfl⟩):P:=h
theorem Ef {P:Prop} (h:P:=by
 have X:=Hn.out;rw [bI,List.take_length] at X;have HI:=I (F5 X);clear X bI;go_wp2;go_ret
 exact ⟨by rw [HI.out];rfl,bL⟩):P:=h
theorem My {P:Prop} (h:P:=by
 refine aN ?_;intro wn X;replace X:=X.out;go_wp2
 exact ⟨⟨k+1,RK,N',ah bN X⟩,by simp [intOf];omega⟩):P:=h
theorem sT {P:Prop} (h:P:=by
 simp only [Bool.and_eq_true,decide_eq_true_eq] at h
 omega):P:=h
theorem Eg {P:Prop} (h:P:=by
 have gp:k = 0∨k = 1∨k = 2:=by omega
 rcases gp with rfl | rfl | rfl <;> exact ⟨_,po _ _ _ _ _ rfl,by unfold bt;omega⟩):P:=h
theorem px {P:Prop} (h:P:=by
 simp only [List.map_cons,List.sum_cons];omega):P:=h
theorem Eh {P:Prop} (h:P:=by
 obtain ⟨g,o,v,e,hg,hv,gm⟩:=HS.out k hk
 exact ⟨g,o,v,e,by simp;omega,((ak (aj w) _).cell (p:=⟨g,o+k,none⟩) hg).trans hv,gm⟩):P:=h
theorem Ei {P:Prop} (h:P:=by
 rintro e w2 ⟨rfl,hw⟩;rw [hw];clear hw w2;go_wp2;go_ret
 exact ⟨by rw [HF.out];rfl,aj _⟩):P:=h
theorem Ej {P:Prop} (h:P:=by
 rw [xK] at h;rcases MK h with h | h
 ·exact .inl h
 ·rw [List.mem_singleton.1 h];exact .inr (List.mem_cons_self ..)):P:=h
theorem Ek {P:Prop} (h:P:=by
 rcases h0 with ⟨rfl,rfl⟩ | ⟨b,o',_,rfl,_⟩
 ·rw [hc.2];intro b U;cases U
 ·intro x hx;exact List.mem_cons_of_mem _ hx):P:=h
theorem El {P:Prop} (h:P:=by
 refine ⟨⟨k+1,J,N',by rw [RL _ _ _ av];exact bv,by rw [RL _ _ _ av];exact kk,Er.symm,bd⟩,by simp [intOf];omega⟩):P:=h
theorem Eu {P:Prop} (h:P:=by
 clear hp;have HI:=I (Fj av Hn.out HP.out);go_wp2;go_ret
 exact ⟨by rw [HI.out];rfl,bL⟩):P:=h
theorem x3 {P:Prop} (h:P:=by
 refine Or.inl ⟨rfl,fun wq hq=>?_⟩;go_simp
 try rfl):P:=h
theorem Ev {P:Prop} (h:P:=by
 rw [show (⟨b,o',none⟩:Addr).add j = ⟨b,o'+j,none⟩ from by unfold Addr.add;split <;> simp_all]
 exact bJ j u hu):P:=h
theorem Ew {P:Prop} (h:P:=by
 obtain ⟨j,x4,rfl⟩:=List.getElem_of_mem hz;rw [List.getElem_take];rw [List.length_take] at x4
 exact hN j J J):P:=h
theorem x5 {P:Prop} (h:P:=by
 simp only [List.map_nil,List.sum_nil,List.length_nil] at h hl;omega):P:=h
theorem Ex {P:Prop} (h:P:=by
 exact am.oJ h ⟨dz D hr,List.nodup_nil,(fun b U=>by cases U),(fun b U=>by cases U)⟩ (fun g hg hm=>by cases hm)):P:=h
theorem Ey {P:Prop} (h:P:=by
 have bI:k = xs.length:=by omega
 subst bI;go_wp2;go_ret
 exact ⟨by rw [List.take_length];rfl,aK⟩):P:=h
theorem Ez {P:Prop} (h:P:=by
 have h3:s.data.toList.length = 0:=by rw [← ByteArray.toList_eq,Z];rfl
 rw [Array.length_toList] at h3
 exact h3):P:=h
theorem x6 {P:Prop} (h:P:=by
 rw [h,if_neg J,hs,Int.toNat_natCast,List.getElem?_eq_getElem hk]):P:=h
theorem EA {P:Prop} (h:P:=by
 rcases Nat.lt_or_ge g w.heap.size with av | nB
 ·exact av
 ·rw [Array.getElem?_eq_none nB] at h3;cases h3):P:=h
theorem EB {P:Prop} (h:P:=by
 cases j with
 | zero=>rwa [cF hj] at this
 | succ i=>rw [yS hj,Bool.and_eq_true] at this;exact this.1):P:=h
theorem EC {P:Prop} (h:P:=by
 intro HK;have ba:Below wn.heap.size wn wn.drew:=aA (aj _);refine aX 1 _ M U' H' ba W' ?_;try simp only [Act.put,pz]
 refine aX 2 _ M U' H' ba W' ?_;try simp only [Act.put,pz]
 refine aX 3 _ M U' H' ba W' ?_;try simp only [Act.put,pz]
 refine aX 5 _ M U' H' ba W' ?_;try simp only [Act.put,pz]
 refine aX 6 _ M U' H' ba W' ?_;try simp only [Act.put,pz]
 refine aX 7 _ M U' H' ba W' ?_;try simp only [Act.put,pz]
 refine aX 8 _ M U' H' ba W' ?_;try simp only [Act.put,pz]
 refine D7 0 9 M M U' M M (fun K hK=>?_) (fun K hK=>?_)
 ·go_simp;refine hK _ _ (ak ba (.cells #[] 117)) ?_;try simp only [Act.put,pz]
  clear hK K;have Qz:=ak ba (.cells #[] 117);have KI:=D9 wn.drew 117 4 wn.heap.size rfl;refine D7 4 9 M M U' M M (fun K hK=>?_) (fun K hK=>?_)
  ·refine qQ oF _ _ M (wn.drew.alloc (.cells #[] 117)) wn.heap.size _ 0 [] KI M ⟨g,0,none⟩ jj ar ((s1.flatMap gf)) M Mz (fun q u hu=>(Qz.cell (p:=(⟨g,0,none⟩:Addr).add q) iC).trans (ev.out q u hu)) (mI uu s1) J J fm ?_;intro v5 w5 aM cw fo;have bs:Below wn.heap.size wn w5:=Below.grown (Qz) cw fm (fun q hq=>(KI.lt q hq).1);refine hK _ _ bs ?_;try simp only [Act.put,pz]
   clear hK K;refine bP 9 M U' M (fun K hK=>?_);go_simp;refine hK _ _ (ak bs (.cells #[.string y.key,.bool y.equal,.string y.value,.int .i64 y.ap] 117)) ?_;try simp only [Act.put,pz]
   clear hK K;have cH:=ak bs (.cells #[.string y.key,.bool y.equal,.string y.value,.int .i64 y.ap] 117);refine bP 10 M U' M (fun K hK=>?_);refine qQ oF _ _ M (w5.alloc (.cells #[.string y.key,.bool y.equal,.string y.value,.int .i64 y.ap] 117)) wn.heap.size v5 _ _ (mG aM (ak (aj _) _)) M ⟨w5.heap.size,0,none⟩ 1 1 [.string y.key,.bool y.equal,.string y.value,.int .i64 y.ap] M M (DI w5 117 [.string y.key,.bool y.equal,.string y.value,.int .i64 y.ap] w5.heap.size rfl) (uu y) J J fr ?_;exact sU
  ·go_simp;refine hK _ _ (ak Qz (.cells #[.string y.key,.bool y.equal,.string y.value,.int .i64 y.ap] 117)) ?_;try simp only [Act.put,pz]
   clear hK K;have cH:=ak Qz (.cells #[.string y.key,.bool y.equal,.string y.value,.int .i64 y.ap] 117);replace KI:=mG KI (ak (aj _) (.cells #[.string y.key,.bool y.equal,.string y.value,.int .i64 y.ap] 117));refine bP 4 M U' M (fun K hK=>?_);refine qQ oF _ _ M ((wn.drew.alloc (.cells #[] 117)).alloc (.cells #[.string y.key,.bool y.equal,.string y.value,.int .i64 y.ap] 117)) wn.heap.size _ 0 [] KI M ⟨g,0,none⟩ jj ar ((s1.flatMap gf)) M Mz (fun q u hu=>(cH.cell (p:=(⟨g,0,none⟩:Addr).add q) iC).trans (ev.out q u hu)) (mI uu s1) J J fr ?_;intro v5 w5 aM cw fo;have bs:Below wn.heap.size wn w5:=Below.grown (cH) cw fr (fun q hq=>(KI.lt q hq).1);refine hK _ _ bs ?_;try simp only [Act.put,pz]
   clear hK K;refine bP 10 M U' M (fun K hK=>?_);refine qQ oF _ _ M w5 wn.heap.size v5 _ _ aM M ⟨wn.heap.size+1,0,none⟩ 1 1 [.string y.key,.bool y.equal,.string y.value,.int .i64 y.ap] M M (fun q u hu=>(World.cell?_of_block rC).trans ((DI (wn.drew.alloc (.cells #[] 117)) 117 [.string y.key,.bool y.equal,.string y.value,.int .i64 y.ap] (wn.heap.size+1) S') q u hu)) (uu y) J J hT ?_;exact lE
 ·go_simp;refine hK _ _ (ak ba (.cells #[.string y.key,.bool y.equal,.string y.value,.int .i64 y.ap] 117)) ?_;try simp only [Act.put,pz]
  clear hK K;have cH:=ak ba (.cells #[.string y.key,.bool y.equal,.string y.value,.int .i64 y.ap] 117);refine bP 0 M U' M (fun K hK=>?_);go_simp;refine hK _ _ (ak cH (.cells #[] 117)) ?_;try simp only [Act.put,pz]
  clear hK K;have Qz:=ak cH (.cells #[] 117);have KI:=vP (D9 (wn.drew.alloc (.cells #[.string y.key,.bool y.equal,.string y.value,.int .i64 y.ap] 117)) 117 4 (wn.heap.size+1) S') (B':=wn.heap.size) J;refine bP 4 M U' M (fun K hK=>?_);refine qQ oF _ _ M ((wn.drew.alloc (.cells #[.string y.key,.bool y.equal,.string y.value,.int .i64 y.ap] 117)).alloc (.cells #[] 117)) wn.heap.size _ 0 [] KI M ⟨g,0,none⟩ jj ar ((s1.flatMap gf)) M Mz (fun q u hu=>(Qz.cell (p:=(⟨g,0,none⟩:Addr).add q) iC).trans (ev.out q u hu)) (mI uu s1) J J fm ?_;intro v5 w5 aM cw fo;have bs:Below wn.heap.size wn w5:=Below.grown (Qz) cw fm (fun q hq=>(KI.lt q hq).1);refine hK _ _ bs ?_;try simp only [Act.put,pz]
  clear hK K;refine bP 10 M U' M (fun K hK=>?_);refine qQ oF _ _ M w5 wn.heap.size v5 _ _ aM M ⟨wn.heap.size,0,none⟩ 1 1 [.string y.key,.bool y.equal,.string y.value,.int .i64 y.ap] M M (fun q u hu=>(World.cell?_of_block rE).trans ((DI wn.drew 117 [.string y.key,.bool y.equal,.string y.value,.int .i64 y.ap] wn.heap.size rfl) q u hu)) (uu y) J J hT ?_
  exact lE):P:=h
theorem ED {P:Prop} (h:P:=by
 intro HK;have ba:Below wn.heap.size wn wn.drew:=aA (aj _);refine aX 1 _ M U' H' ba W' ?_;try simp only [Act.put,pz]
 refine aX 2 _ M U' H' ba W' ?_;try simp only [Act.put,pz]
 refine aX 3 _ M U' H' ba W' ?_;try simp only [Act.put,pz]
 refine aX 5 _ M U' H' ba W' ?_;try simp only [Act.put,pz]
 refine aX 6 _ M U' H' ba W' ?_;try simp only [Act.put,pz]
 refine aX 7 _ M U' H' ba W' ?_;try simp only [Act.put,pz]
 refine aX 8 _ M U' H' ba W' ?_;try simp only [Act.put,pz]
 refine D7 0 9 M M U' M M (fun K hK=>?_) (fun K hK=>?_)
 ·go_simp;refine hK _ _ (ak ba (.cells #[] 126)) ?_;try simp only [Act.put,pz]
  clear hK K;have Qz:=ak ba (.cells #[] 126);have KI:=D9 wn.drew 126 3 wn.heap.size rfl;refine D7 4 9 M M U' M M (fun K hK=>?_) (fun K hK=>?_)
  ·refine qQ pM _ _ M (wn.drew.alloc (.cells #[] 126)) wn.heap.size _ 0 [] KI M ⟨g,0,none⟩ jj ar ((s1.flatMap gn)) M MA (fun q u hu=>(Qz.cell (p:=(⟨g,0,none⟩:Addr).add q) iC).trans (ev.out q u hu)) (mI uv s1) J J fm ?_;intro v5 w5 aM cw fo;have bs:Below wn.heap.size wn w5:=Below.grown (Qz) cw fm (fun q hq=>(KI.lt q hq).1);refine hK _ _ bs ?_;try simp only [Act.put,pz]
   clear hK K;refine bP 9 M U' M (fun K hK=>?_);go_simp;refine hK _ _ (ak bs (.cells #[.string y.key,.string y.value,.int .i64 y.ap] 126)) ?_;try simp only [Act.put,pz]
   clear hK K;have cH:=ak bs (.cells #[.string y.key,.string y.value,.int .i64 y.ap] 126);refine bP 10 M U' M (fun K hK=>?_);refine qQ pM _ _ M (w5.alloc (.cells #[.string y.key,.string y.value,.int .i64 y.ap] 126)) wn.heap.size v5 _ _ (mG aM (ak (aj _) _)) M ⟨w5.heap.size,0,none⟩ 1 1 [.string y.key,.string y.value,.int .i64 y.ap] M M (DI w5 126 [.string y.key,.string y.value,.int .i64 y.ap] w5.heap.size rfl) (uv y) J J fr ?_;exact sU
  ·go_simp;refine hK _ _ (ak Qz (.cells #[.string y.key,.string y.value,.int .i64 y.ap] 126)) ?_;try simp only [Act.put,pz]
   clear hK K;have cH:=ak Qz (.cells #[.string y.key,.string y.value,.int .i64 y.ap] 126);replace KI:=mG KI (ak (aj _) (.cells #[.string y.key,.string y.value,.int .i64 y.ap] 126));refine bP 4 M U' M (fun K hK=>?_);refine qQ pM _ _ M ((wn.drew.alloc (.cells #[] 126)).alloc (.cells #[.string y.key,.string y.value,.int .i64 y.ap] 126)) wn.heap.size _ 0 [] KI M ⟨g,0,none⟩ jj ar ((s1.flatMap gn)) M MA (fun q u hu=>(cH.cell (p:=(⟨g,0,none⟩:Addr).add q) iC).trans (ev.out q u hu)) (mI uv s1) J J fr ?_;intro v5 w5 aM cw fo;have bs:Below wn.heap.size wn w5:=Below.grown (cH) cw fr (fun q hq=>(KI.lt q hq).1);refine hK _ _ bs ?_;try simp only [Act.put,pz]
   clear hK K;refine bP 10 M U' M (fun K hK=>?_);refine qQ pM _ _ M w5 wn.heap.size v5 _ _ aM M ⟨wn.heap.size+1,0,none⟩ 1 1 [.string y.key,.string y.value,.int .i64 y.ap] M M (fun q u hu=>(World.cell?_of_block rC).trans ((DI (wn.drew.alloc (.cells #[] 126)) 126 [.string y.key,.string y.value,.int .i64 y.ap] (wn.heap.size+1) S') q u hu)) (uv y) J J hT ?_;exact lE
 ·go_simp;refine hK _ _ (ak ba (.cells #[.string y.key,.string y.value,.int .i64 y.ap] 126)) ?_;try simp only [Act.put,pz]
  clear hK K;have cH:=ak ba (.cells #[.string y.key,.string y.value,.int .i64 y.ap] 126);refine bP 0 M U' M (fun K hK=>?_);go_simp;refine hK _ _ (ak cH (.cells #[] 126)) ?_;try simp only [Act.put,pz]
  clear hK K;have Qz:=ak cH (.cells #[] 126);have KI:=vP (D9 (wn.drew.alloc (.cells #[.string y.key,.string y.value,.int .i64 y.ap] 126)) 126 3 (wn.heap.size+1) S') (B':=wn.heap.size) J;refine bP 4 M U' M (fun K hK=>?_);refine qQ pM _ _ M ((wn.drew.alloc (.cells #[.string y.key,.string y.value,.int .i64 y.ap] 126)).alloc (.cells #[] 126)) wn.heap.size _ 0 [] KI M ⟨g,0,none⟩ jj ar ((s1.flatMap gn)) M MA (fun q u hu=>(Qz.cell (p:=(⟨g,0,none⟩:Addr).add q) iC).trans (ev.out q u hu)) (mI uv s1) J J fm ?_;intro v5 w5 aM cw fo;have bs:Below wn.heap.size wn w5:=Below.grown (Qz) cw fm (fun q hq=>(KI.lt q hq).1);refine hK _ _ bs ?_;try simp only [Act.put,pz]
  clear hK K;refine bP 10 M U' M (fun K hK=>?_);refine qQ pM _ _ M w5 wn.heap.size v5 _ _ aM M ⟨wn.heap.size,0,none⟩ 1 1 [.string y.key,.string y.value,.int .i64 y.ap] M M (fun q u hu=>(World.cell?_of_block rE).trans ((DI wn.drew 126 [.string y.key,.string y.value,.int .i64 y.ap] wn.heap.size rfl) q u hu)) (uv y) J J hT ?_
  exact lE):P:=h
theorem EE {P:Prop} (h:P:=by
 intro HK;have ba:Below wn.heap.size wn wn.drew:=aA (aj _);refine aX 1 _ M U' H' ba W' ?_;try simp only [Act.put,pz]
 refine aX 2 _ M U' H' ba W' ?_;try simp only [Act.put,pz]
 refine aX 3 _ M U' H' ba W' ?_;try simp only [Act.put,pz]
 refine aX 5 _ M U' H' ba W' ?_;try simp only [Act.put,pz]
 refine aX 6 _ M U' H' ba W' ?_;try simp only [Act.put,pz]
 refine aX 7 _ M U' H' ba W' ?_;try simp only [Act.put,pz]
 refine aX 8 _ M U' H' ba W' ?_;try simp only [Act.put,pz]
 refine D7 0 9 M M U' M M (fun K hK=>?_) (fun K hK=>?_)
 ·go_simp;refine hK _ _ (ak ba (.cells #[] 67)) ?_;try simp only [Act.put,pz]
  clear hK K;have Qz:=ak ba (.cells #[] 67);have KI:=D9 wn.drew 67 2 wn.heap.size rfl;refine D7 4 9 M M U' M M (fun K hK=>?_) (fun K hK=>?_)
  ·refine qQ km _ _ M (wn.drew.alloc (.cells #[] 67)) wn.heap.size _ 0 [] KI M ⟨g,0,none⟩ jj ar ((s1.flatMap gM)) M MB (fun q u hu=>(Qz.cell (p:=(⟨g,0,none⟩:Addr).add q) iC).trans (ev.out q u hu)) (mI ux s1) J J fm ?_;intro v5 w5 aM cw fo;have bs:Below wn.heap.size wn w5:=Below.grown (Qz) cw fm (fun q hq=>(KI.lt q hq).1);refine hK _ _ bs ?_;try simp only [Act.put,pz]
   clear hK K;refine bP 9 M U' M (fun K hK=>?_);go_simp;refine hK _ _ (ak bs (.cells #[.string y.key,.string y.value] 67)) ?_;try simp only [Act.put,pz]
   clear hK K;have cH:=ak bs (.cells #[.string y.key,.string y.value] 67);refine bP 10 M U' M (fun K hK=>?_);refine qQ km _ _ M (w5.alloc (.cells #[.string y.key,.string y.value] 67)) wn.heap.size v5 _ _ (mG aM (ak (aj _) _)) M ⟨w5.heap.size,0,none⟩ 1 1 [.string y.key,.string y.value] M M (DI w5 67 [.string y.key,.string y.value] w5.heap.size rfl) (ux y) J J fr ?_;exact sU
  ·go_simp;refine hK _ _ (ak Qz (.cells #[.string y.key,.string y.value] 67)) ?_;try simp only [Act.put,pz]
   clear hK K;have cH:=ak Qz (.cells #[.string y.key,.string y.value] 67);replace KI:=mG KI (ak (aj _) (.cells #[.string y.key,.string y.value] 67));refine bP 4 M U' M (fun K hK=>?_);refine qQ km _ _ M ((wn.drew.alloc (.cells #[] 67)).alloc (.cells #[.string y.key,.string y.value] 67)) wn.heap.size _ 0 [] KI M ⟨g,0,none⟩ jj ar ((s1.flatMap gM)) M MB (fun q u hu=>(cH.cell (p:=(⟨g,0,none⟩:Addr).add q) iC).trans (ev.out q u hu)) (mI ux s1) J J fr ?_;intro v5 w5 aM cw fo;have bs:Below wn.heap.size wn w5:=Below.grown (cH) cw fr (fun q hq=>(KI.lt q hq).1);refine hK _ _ bs ?_;try simp only [Act.put,pz]
   clear hK K;refine bP 10 M U' M (fun K hK=>?_);refine qQ km _ _ M w5 wn.heap.size v5 _ _ aM M ⟨wn.heap.size+1,0,none⟩ 1 1 [.string y.key,.string y.value] M M (fun q u hu=>(World.cell?_of_block rC).trans ((DI (wn.drew.alloc (.cells #[] 67)) 67 [.string y.key,.string y.value] (wn.heap.size+1) S') q u hu)) (ux y) J J hT ?_;exact lE
 ·go_simp;refine hK _ _ (ak ba (.cells #[.string y.key,.string y.value] 67)) ?_;try simp only [Act.put,pz]
  clear hK K;have cH:=ak ba (.cells #[.string y.key,.string y.value] 67);refine bP 0 M U' M (fun K hK=>?_);go_simp;refine hK _ _ (ak cH (.cells #[] 67)) ?_;try simp only [Act.put,pz]
  clear hK K;have Qz:=ak cH (.cells #[] 67);have KI:=vP (D9 (wn.drew.alloc (.cells #[.string y.key,.string y.value] 67)) 67 2 (wn.heap.size+1) S') (B':=wn.heap.size) J;refine bP 4 M U' M (fun K hK=>?_);refine qQ km _ _ M ((wn.drew.alloc (.cells #[.string y.key,.string y.value] 67)).alloc (.cells #[] 67)) wn.heap.size _ 0 [] KI M ⟨g,0,none⟩ jj ar ((s1.flatMap gM)) M MB (fun q u hu=>(Qz.cell (p:=(⟨g,0,none⟩:Addr).add q) iC).trans (ev.out q u hu)) (mI ux s1) J J fm ?_;intro v5 w5 aM cw fo;have bs:Below wn.heap.size wn w5:=Below.grown (Qz) cw fm (fun q hq=>(KI.lt q hq).1);refine hK _ _ bs ?_;try simp only [Act.put,pz]
  clear hK K;refine bP 10 M U' M (fun K hK=>?_);refine qQ km _ _ M w5 wn.heap.size v5 _ _ aM M ⟨wn.heap.size,0,none⟩ 1 1 [.string y.key,.string y.value] M M (fun q u hu=>(World.cell?_of_block rE).trans ((DI wn.drew 67 [.string y.key,.string y.value] wn.heap.size rfl) q u hu)) (ux y) J J hT ?_
  exact lE):P:=h
theorem EG {P:Prop} (h:P:=by
 intro HK;have ba:Below wn.heap.size wn wn.drew:=aA (aj _);refine aX 1 _ M U' H' ba W' ?_;try simp only [Act.put,pz]
 refine aX 2 _ M U' H' ba W' ?_;try simp only [Act.put,pz]
 refine aX 3 _ M U' H' ba W' ?_;try simp only [Act.put,pz]
 refine aX 5 _ M U' H' ba W' ?_;try simp only [Act.put,pz]
 refine aX 6 _ M U' H' ba W' ?_;try simp only [Act.put,pz]
 refine aX 7 _ M U' H' ba W' ?_;try simp only [Act.put,pz]
 refine aX 8 _ M U' H' ba W' ?_;try simp only [Act.put,pz]
 refine D7 0 9 M M U' M M (fun K hK=>?_) (fun K hK=>?_)
 ·go_simp;refine hK _ _ (ak ba (.cells #[] 9)) ?_;try simp only [Act.put,pz]
  clear hK K;have Qz:=ak ba (.cells #[] 9);have KI:=D9 wn.drew 9 1 wn.heap.size rfl;refine D7 4 9 M M U' M M (fun K hK=>?_) (fun K hK=>?_)
  ·refine qQ qw _ _ M (wn.drew.alloc (.cells #[] 9)) wn.heap.size _ 0 [] KI M ⟨g,0,none⟩ jj ar (((s1).map Value.string)) M ub (fun q u hu=>(Qz.cell (p:=(⟨g,0,none⟩:Addr).add q) iC).trans (ev.out q u hu)) (fun u hu=>by obtain ⟨z0,_,rfl⟩:=List.mem_map.1 hu;rfl) J J fm ?_;intro v5 w5 aM cw fo;have bs:Below wn.heap.size wn w5:=Below.grown (Qz) cw fm (fun q hq=>(KI.lt q hq).1);refine hK _ _ bs ?_;try simp only [Act.put,pz]
   clear hK K;refine bP 9 M U' M (fun K hK=>?_);go_simp;refine hK _ _ (ak bs (.cells #[.string y] 9)) ?_;try simp only [Act.put,pz]
   clear hK K;have cH:=ak bs (.cells #[.string y] 9);refine bP 10 M U' M (fun K hK=>?_);refine qQ qw _ _ M (w5.alloc (.cells #[.string y] 9)) wn.heap.size v5 _ _ (mG aM (ak (aj _) _)) M ⟨w5.heap.size,0,none⟩ 1 1 [.string y] M M (DI w5 9 [.string y] w5.heap.size rfl) (fun u hu=>by rw [List.mem_singleton.1 hu];rfl) J J fr ?_;exact sU
  ·go_simp;refine hK _ _ (ak Qz (.cells #[.string y] 9)) ?_;try simp only [Act.put,pz]
   clear hK K;have cH:=ak Qz (.cells #[.string y] 9);replace KI:=mG KI (ak (aj _) (.cells #[.string y] 9));refine bP 4 M U' M (fun K hK=>?_);refine qQ qw _ _ M ((wn.drew.alloc (.cells #[] 9)).alloc (.cells #[.string y] 9)) wn.heap.size _ 0 [] KI M ⟨g,0,none⟩ jj ar (((s1).map Value.string)) M ub (fun q u hu=>(cH.cell (p:=(⟨g,0,none⟩:Addr).add q) iC).trans (ev.out q u hu)) (fun u hu=>by obtain ⟨z0,_,rfl⟩:=List.mem_map.1 hu;rfl) J J fr ?_;intro v5 w5 aM cw fo;have bs:Below wn.heap.size wn w5:=Below.grown (cH) cw fr (fun q hq=>(KI.lt q hq).1);refine hK _ _ bs ?_;try simp only [Act.put,pz]
   clear hK K;refine bP 10 M U' M (fun K hK=>?_);refine qQ qw _ _ M w5 wn.heap.size v5 _ _ aM M ⟨wn.heap.size+1,0,none⟩ 1 1 [.string y] M M (fun q u hu=>(World.cell?_of_block rC).trans ((DI (wn.drew.alloc (.cells #[] 9)) 9 [.string y] (wn.heap.size+1) S') q u hu)) (fun u hu=>by rw [List.mem_singleton.1 hu];rfl) J J hT ?_;exact lE
 ·go_simp;refine hK _ _ (ak ba (.cells #[.string y] 9)) ?_;try simp only [Act.put,pz]
  clear hK K;have cH:=ak ba (.cells #[.string y] 9);refine bP 0 M U' M (fun K hK=>?_);go_simp;refine hK _ _ (ak cH (.cells #[] 9)) ?_;try simp only [Act.put,pz]
  clear hK K;have Qz:=ak cH (.cells #[] 9);have KI:=vP (D9 (wn.drew.alloc (.cells #[.string y] 9)) 9 1 (wn.heap.size+1) S') (B':=wn.heap.size) J;refine bP 4 M U' M (fun K hK=>?_);refine qQ qw _ _ M ((wn.drew.alloc (.cells #[.string y] 9)).alloc (.cells #[] 9)) wn.heap.size _ 0 [] KI M ⟨g,0,none⟩ jj ar (((s1).map Value.string)) M ub (fun q u hu=>(Qz.cell (p:=(⟨g,0,none⟩:Addr).add q) iC).trans (ev.out q u hu)) (fun u hu=>by obtain ⟨z0,_,rfl⟩:=List.mem_map.1 hu;rfl) J J fm ?_;intro v5 w5 aM cw fo;have bs:Below wn.heap.size wn w5:=Below.grown (Qz) cw fm (fun q hq=>(KI.lt q hq).1);refine hK _ _ bs ?_;try simp only [Act.put,pz]
  clear hK K;refine bP 10 M U' M (fun K hK=>?_);refine qQ qw _ _ M w5 wn.heap.size v5 _ _ aM M ⟨wn.heap.size,0,none⟩ 1 1 [.string y] M M (fun q u hu=>(World.cell?_of_block rE).trans ((DI wn.drew 9 [.string y] wn.heap.size rfl) q u hu)) (fun u hu=>by rw [List.mem_singleton.1 hu];rfl) J J hT ?_
  exact lE):P:=h
theorem EH {P:Prop} (h:P:=by
 try simp only [Bool.and_false,Bool.and_true,Bool.false_and,Bool.and_self] at hp
 have HF:=I (dW av hp);clear hp;go_wp2_with fail
 refine aF _ U' U' (aj _) ?_
 repeat ((first | refine aG M ?_ | refine aH _ M Cy ?_);simp only [Act.put,pz])
 refine aN ?_;intro wn X;replace X:=X.out;obtain ⟨jI,ky⟩:=ay X;have i7:w.heap.size < wn.heap.size:=sq X.size;have rI:b' < wn.heap.size:=sq X.size;try (have so:wr.heap.size < wn.heap.size:=sq X.size)
 exact ej):P:=h
theorem vI {P:Prop} (h:P:=by
 refine hK _ _ bF ?_;try simp only [Act.put,pz]
 clear hK K;refine bP 11 M U' M (fun K hK=>?_);go_simp;refine hK _ _ bF ?_;try simp only [Act.put,pz]
 clear hK K;refine nR U' ?_
 exact HK _ _ ⟨g9,p9,_,_,_,_,_,_,_,_,_,_,uk,bF,nK⟩):P:=h
theorem xb {P:Prop} (h:P:=by
 rw [HF.out];first | refine ⟨[.slice dG x.V.length bV,.slice dS x.O.length dJ,.int .i64 x.next,.int .i64 x.weights.pack,.int .i64 x.weights.af,.int .i64 x.weights.an],G1,rfl,?_,?_⟩ | refine ⟨[.slice dG x.V.length bV,.slice dS x.O.length dJ,.int .i64 x.next,.int .i64 x.weights.pack,.int .i64 x.weights.af,.int .i64 x.weights.an],rfl,⟨G1,?_⟩,?_⟩
 ·try dsimp only
  refine am.mono (B:=w.heap.size+1+1+1) ?_ J;exact AP
 ·exact pD):P:=h
theorem x7 {P:Prop} (h:P:=by
 clear hs;go_enter Tryz.func16,Tryz.ntmps16;go_wp2_with fail
 refine (gK x _ _ nm _ (aJ h bL) cI).mono ?_;rw [HI.out];rintro e w2 ⟨rfl,aq⟩;obtain ⟨cj,cN⟩:=ay aq;have cC:w.heap.size < w2.heap.size:=(sq aq.size);have lI:w.heap.size+1 < w2.heap.size:=(sq aq.size);have eS:Below w.heap.size w w2:=bL;go_wp2_with fail
 refine (iQ x _ _ nm _ (aJ h bL) vk).mono ?_
 exact Mi):P:=h
theorem CS {P:Prop} (h:P:=by
 have RZ:=I bM;clear jX bM h h';go_wp2_with fail
 try dsimp only
 iterate 60 (first | go_step | skip)
 refine bodyPost_ret (v:=.tuple #[.agg #[.slice dG x.V.length bV,.slice dS x.O.length dJ,.int .i64 x.next,.int .i64 x.weights.pack,.int .i64 x.weights.af,.int .i64 x.weights.an],.int .i64 1]) (by simp [results,Tryz.results109,go_sem, *]) rfl ?_;rw [HF.out]
 first
  | refine ⟨[.slice dG x.V.length bV,.slice dS x.O.length dJ,.int .i64 x.next,.int .i64 x.weights.pack,.int .i64 x.weights.af,.int .i64 x.weights.an],G1,rfl,?_,?_⟩
  | refine ⟨[.slice dG x.V.length bV,.slice dS x.O.length dJ,.int .i64 x.next,.int .i64 x.weights.pack,.int .i64 x.weights.af,.int .i64 x.weights.an],rfl,⟨G1,?_⟩,?_⟩
 ·try dsimp only
  refine am.mono (B:=w.heap.size+1+1+1) ?_ J;exact Rh
 ·exact pD):P:=h
theorem vL {P:Prop} (h:P:=by
 refine hK _ _ bF ?_;try simp only [Act.put,pz]
 clear hK K;refine bP 12 M U' M (fun K hK=>?_);go_simp;refine hK _ _ bF ?_;try simp only [Act.put,pz]
 clear hK K;refine nR U' ?_
 exact HK _ _ ⟨g9,p9,_,_,_,_,_,_,_,_,_,_,_,uk,bF,nK⟩):P:=h
theorem EI {P:Prop} (h:P:=by
 have HF:=I (show oH nm x p = 2 by rw [pE.out,if_neg (by simp [hS]),if_pos hu]);have HS:=I hS;clear hS;go_wp2_with fail
 refine (wj.out _ bL).mono ?_;rw [HS.out];rintro e w4 ⟨rfl,bw⟩;obtain ⟨fa,hf4⟩:=ay bw;have Wy:w.heap.size < w4.heap.size:=(sq bw.size);have AJ:w.heap.size+1 < w4.heap.size:=(sq bw.size);have Ct:w3.heap.size < w4.heap.size:=(sq bw.size);go_wp2_with fail
 refine (ui.out _ bL).mono ?_;rintro e w5 ⟨rfl,bs⟩;obtain ⟨py,ox⟩:=ay bs;have Es:w.heap.size < w5.heap.size:=(sq bs.size);have IV:w.heap.size+1 < w5.heap.size:=(sq bs.size);have ud:w3.heap.size < w5.heap.size:=(sq bs.size)
 exact sI):P:=h
theorem vW {P:Prop} (h:P:=by
 refine hK _ _ bF ?_;try simp only [Act.put,pz]
 clear hK K;refine bP 9 M U' M (fun K hK=>?_);go_simp;refine hK _ _ bF ?_;try simp only [Act.put,pz]
 clear hK K;refine nR U' ?_
 exact HK _ _ ⟨g9,p9,_,_,_,_,_,_,_,_,uk,bF,nK⟩):P:=h
theorem Ca {P:Prop} (h:P:=by
 intro wq hq;have dE:=(aB hq).1;have lJ:=(aB hq).2;go_simp
 first
  | exact ⟨hq,rfl⟩
  | exact ⟨aQ hq _,rfl⟩
  | (first | (refine (wM x.O[j+1].aS _ _ _ (aJ ku AZ) ft.ns ft.ll ft.ls ft.nl ft.RM ft.tl ft.ts).mono ?_;rw [H1.out];rintro e w2 ⟨rfl,aq⟩;exact ⟨rfl,aI hq aq⟩) | (refine (kH x.O[j+1].seq 1 (x.next - 1) _).mono ?_;rw [LQ.out];rintro e w2 ⟨rfl,rfl⟩;exact ⟨rfl,hq⟩) | (refine (gQ x _ _ x.O[j+1].on _ (aJ h AZ) NV.out).mono ?_;rw [Hg.out];rintro e w2 ⟨rfl,aq⟩;exact ⟨rfl,aI hq aq⟩))
  | (simp only [↓IntWalk.iteOmega];exact ⟨hq,rfl⟩)):P:=h
theorem Cw {P:Prop} (h:P:=by
 intro wq hq;have dE:=(aB hq).1;have lJ:=(aB hq).2;go_simp
 first
  | exact ⟨hq,rfl⟩
  | exact ⟨aQ hq _,rfl⟩
  | (first | (refine (wM x.O[0].aS _ _ _ (aJ ku AZ) ft.ns ft.ll ft.ls ft.nl ft.RM ft.tl ft.ts).mono ?_;rw [H1.out];rintro e w2 ⟨rfl,aq⟩;exact ⟨rfl,aI hq aq⟩) | (refine (kH x.O[0].seq 1 (x.next - 1) _).mono ?_;rw [LQ.out];rintro e w2 ⟨rfl,rfl⟩;exact ⟨rfl,hq⟩) | (refine (gQ x _ _ x.O[0].on _ (aJ h AZ) NV.out).mono ?_;rw [Hg.out];rintro e w2 ⟨rfl,aq⟩;exact ⟨rfl,aI hq aq⟩))
  | (simp only [↓IntWalk.iteOmega];exact ⟨hq,rfl⟩)):P:=h
theorem Ck {P:Prop} (h:P:=by
 refine hK _ _ bF ?_;try simp only [Act.put,pz]
 clear hK K;refine bP 8 M U' M (fun K hK=>?_);go_simp;refine hK _ _ bF ?_;try simp only [Act.put,pz]
 clear hK K;refine nR U' ?_
 exact HK _ _ ⟨g9,p9,_,_,_,_,_,_,_,uk,bF,nK⟩):P:=h
theorem vQ {P:Prop} (h:P:=by
 intro wq hq;have dE:=(aB hq).1;have lJ:=(aB hq).2;go_simp
 first
  | exact ⟨hq,rfl⟩
  | exact ⟨aQ hq _,rfl⟩
  | (fail)
  | (simp only [↓IntWalk.iteOmega];exact ⟨hq,rfl⟩)):P:=h
theorem EL {P:Prop} (h:P:=by
 have HF:=I (show oH nm x p = 1 by rw [pE.out,if_pos hS]);have HS:=I hS;clear hS;go_wp2_with fail
 refine (wj.out _ bL).mono ?_;rw [HS.out];rintro e w4 ⟨rfl,bw⟩;obtain ⟨fa,hf4⟩:=ay bw;have Wy:w.heap.size < w4.heap.size:=(sq bw.size);have AJ:w.heap.size+1 < w4.heap.size:=(sq bw.size);have Ct:w3.heap.size < w4.heap.size:=(sq bw.size)
 exact sI):P:=h
theorem EM {P:Prop} (h:P:=by
 go_wp2_with fail
 refine aF wr U' U' (aj _) ?_
 repeat ((first | refine aG M ?_ | refine aH _ M xf ?_);simp only [Act.put,pz])
 exact sB):P:=h
theorem x8 {P:Prop} (h:P:=by
 refine ⟨⟨k+1,g8,p8,J,N',rfl,?_,?_⟩,by simp [intOf];omega⟩
 ·rw [Jf.out,HI.out];have:=vP Le (B':=w1.heap.size) lp.out.size;exact xt
 ·exact pG):P:=h
theorem EN {P:Prop} (h:P:=by
 go_wp2_with fail
 refine aF wr U' U' (aj _) ?_
 repeat ((first | refine aG M ?_ | refine aH _ M d8 ?_);simp only [Act.put,pz])
 exact sB):P:=h
theorem Cn {P:Prop} (h:P:=by
 intro wq hq;have dE:=(aB hq).1;have lJ:=(aB hq).2;go_simp
 first
  | exact ⟨hq,rfl⟩
  | exact ⟨aQ hq _,rfl⟩
  | (refine (rO x.V[j+1] _ _ _ (aJ hr3 AZ) ft.ns ft.ll ft.ls ft.tl ft.ts).mono ?_;rw [H1.out];rintro e w6 ⟨rfl,cD⟩;exact ⟨rfl,aI hq cD⟩)
  | (simp only [↓IntWalk.iteOmega];exact ⟨hq,rfl⟩)):P:=h
theorem Co {P:Prop} (h:P:=by
 intro wq hq;have dE:=(aB hq).1;have lJ:=(aB hq).2;go_simp
 first
  | exact ⟨hq,rfl⟩
  | exact ⟨aQ hq _,rfl⟩
  | (refine (rO x.V[0] _ _ _ (aJ hr3 AZ) ft.ns ft.ll ft.ls ft.tl ft.ts).mono ?_;rw [H1.out];rintro e w6 ⟨rfl,cD⟩;exact ⟨rfl,aI hq cD⟩)
  | (simp only [↓IntWalk.iteOmega];exact ⟨hq,rfl⟩)):P:=h
theorem EO {P:Prop} (h:P:=by
 clear hs;go_wp2_with fail
 refine aF wr U' U' (aj _) ?_
 repeat ((first | refine aG M ?_ | refine aH _ M d8 ?_);simp only [Act.put,pz])
 exact My):P:=h
theorem C3 {P:Prop} (h:P:=by
 clear cD fd kz hZ;dsimp only at *;cases b
 ·go_wp2;exact ⟨⟨xs,A',c',G,k+1,rfl,N',J,mH.out,Du,fp.out,iF.out,Rl⟩,by simp only [intOf];omega⟩
 ·go_wp2
  exact ⟨⟨u,A6,c6,G6,k+1,rfl,N',J,iD.out,I (il.out rfl),fp.out,iF.out,I ((Jg.out rfl).mono J)⟩,by simp only [intOf];omega⟩):P:=h
theorem sX {P:Prop} (h:P:=by
 go_enter Tryz.func132,Tryz.ntmps132;go_wp2_with fail
 refine (rX x.key _ fh).mono ?_
 exact Cx):P:=h
theorem sY {P:Prop} (h:P:=by
 go_enter Tryz.func125,Tryz.ntmps125;go_wp2_with fail
 refine (qK x.key _ fh).mono ?_
 exact Cx):P:=h
theorem EP {P:Prop} (h:P:=by
 have bI:k = x.V.length:=by omega
 subst bI;rw [List.take_length] at bi cA;have b4:Below w.heap.size w wr:=ah im aK;obtain ⟨Al,cl,Gl,rfl,j0⟩:=am.oJ bi ((aY.bm cA (fun b U=>by cases U) b4.size)) (fun _ _ U=>by cases U);have s7:=LY x p x.V
 exact C8):P:=h
theorem Cu {P:Prop} (h:P:=by
 rw [H2.out];rintro e w7 ⟨rfl,bF⟩;obtain ⟨hc7,hf7⟩:=ay bF;have lu:w.heap.size < w7.heap.size:=(sq bF.size);have hy7:w.heap.size+1 < w7.heap.size:=(sq bF.size);have hx7:w3.heap.size < w7.heap.size:=(sq bF.size)
 exact xh):P:=h
theorem CN {P:Prop} (h:P:=by
 rw [HF.out];refine ⟨[.slice dG x.V.length bV,.slice dS x.O.length dJ,.int .i64 x.next,.int .i64 x.weights.pack,.int .i64 x.weights.af,.int .i64 x.weights.an],G1,rfl,?_,?_⟩
 ·try dsimp only
  refine am.mono (B:=w.heap.size+1+1+1) ?_ J;exact AP
 ·exact pD):P:=h
theorem EQ {P:Prop} (h:P:=by
 intro v7 w7 nK Ua li;rw [show 0+0 = 0 by omega,List.nil_append] at nK;obtain ⟨g9,p9,hv7,fS,kw,jG⟩:=wW nK J;subst hv7;have bF:Below wn.heap.size wn w7:=Below.grown (bs) Ua hT (fun q hq=>(aM.lt q hq).1)
 exact CL):P:=h
theorem ER {P:Prop} (h:P:=by
 intro v7 w7 nK Ua li;rw [show 0+0 = 0 by omega,List.nil_append] at nK;obtain ⟨g9,p9,hv7,fS,kw,jG⟩:=wW nK J;subst hv7;have bF:Below wn.heap.size wn w7:=Below.grown (bs) Ua hT (fun q hq=>(aM.lt q hq).1)
 exact CK):P:=h
theorem ES {P:Prop} (h:P:=by
 cases he2:GX b p.mem with
 | none =>rw [show qG b p.mem = 9223372036854775807 by unfold qG;rw [he2];rfl] at hS2 nE;exact Cg
 | some s2 =>
   rw [show qG b p.mem = s2 by unfold qG;rw [he2];rfl] at hS2 nE
   exact Cg):P:=h
theorem Cs {P:Prop} (h:P:=by
 rw [HU.out];rintro e w3 ⟨rfl,bd⟩;obtain ⟨dx,hf3⟩:=ay bd;have dm:w.heap.size < w3.heap.size:=(sq bd.size);have vR:w.heap.size+1 < w3.heap.size:=(sq bd.size);have eC:Below w.heap.size w w3:=ah eS bd;go_wp2;go_ret
 exact ⟨by rw [HF.out];rfl,bL⟩):P:=h
theorem Cr {P:Prop} (h:P:=by
 exact ⟨[.slice kM R.V.length kN,.slice ny R.O.length nC,.int .i64 R.next,.int .i64 R.weights.pack,.int .i64 R.weights.af,.int .i64 R.weights.an],G,rfl,(HO.out.only OB (fun b U=>by have:=HO.out.base b U;omega)).mono (B':=w.heap.size) J,ur aq OB J⟩):P:=h
theorem xm {P:Prop} (h:P:=by
 have hj:=(List.getElem?_eq_some_iff.1 hu).1;rw [← ht,List.getElem?_take] at hu;split at hu
 ·simpa using hu
 ·cases hu):P:=h
theorem ET {P:Prop} (h:P:=by
 refine ⟨⟨k+1,N+1,g8,p8,J,J,N',rfl,I ?_,?_,?_⟩,by simp [intOf];omega⟩
 ·exact sK
 ·rw [Jf.out,HI.out];have:=vP Le (B':=w.heap.size) lp.out.size;exact xt
 ·exact pG):P:=h
theorem ss {P:Prop} (h:P:=by
 go_wp2;go_ret
 exact ⟨by rw [HF.out];rfl,bL⟩):P:=h
theorem EU {P:Prop} (h:P:=by
 try simp only [Bool.and_false,Bool.and_true,Bool.false_and,Bool.and_self] at hp
 have HF:=I (jP av hp);clear hp
 exact wg):P:=h
theorem sA {P:Prop} (h:P:=by
 try dsimp only
 refine am.mono (B:=w.heap.size+1+1+1) ?_ J
 exact XY):P:=h
theorem x9 {P:Prop} (h:P:=by
 have ut:=I hr;clear hr;go_wp2_with fail
 refine il.out.mono ?_
 exact Dg):P:=h
theorem xz {P:Prop} (h:P:=by
 rw [World.cell?_of_block (heap_alloc_old _ _ S'),cell_of_row _ _ _ _ _ _ (heap_alloc_new w _)];rfl):P:=h
theorem EV {P:Prop} (h:P:=by
 have uy:(s.toList == xs[k].toList) = false:=by rw [BEq.comm];exact hp
 have Gn:=I (yQ (p:=fun v:ByteArray=>v.toList == s.toList) av HN.out hp)
 exact xD):P:=h
theorem EX {P:Prop} (h:P:=by
 have HA:=I h;go_enter Tryz.func46,Tryz.ntmps46;go_wp2_with fail
 refine (J9 a b _ ha U).mono ?_;rw [HA.out];rintro e w2 ⟨rfl,aq⟩
 exact ej):P:=h
theorem E0 {P:Prop} (h:P:=by
 refine ⟨⟨k+1,N+1,g8,p8,J,J,N',rfl,I ?_,?_,?_⟩,by simp [intOf];omega⟩
 ·exact sK
 ·exact Mu
 ·exact pG):P:=h
theorem E4 {P:Prop} (h:P:=by
 refine ⟨⟨k+1,N+1,g8,p8,J,J,N',rfl,I ?_,?_,?_⟩,by simp [intOf];omega⟩
 ·exact sK
 ·exact Mv
 ·exact pG):P:=h
theorem E6 {P:Prop} (h:P:=by
 refine ⟨⟨k+1,N+1,g8,p8,J,J,N',rfl,I ?_,?_,?_⟩,by simp [intOf];omega⟩
 ·exact sK
 ·exact Mw
 ·exact pG):P:=h
theorem E7 {P:Prop} (h:P:=by
 obtain ⟨R,cd⟩:=RR;dsimp only at HS ⊢;go_enter Tryz.func66,Tryz.ntmps66;go_wp2_with fail
 refine (HS.out _ _ _ (aZ h b9)).mono ?_
 exact vX):P:=h
theorem E9 {P:Prop} (h:P:=by
 refine aN ?_;intro wn X;replace X:=X.out;simp only [HQ.out]
 exact DM):P:=h
theorem E' {P:Prop} (h:P:=by
 have bI:k = xs.length:=by omega
 subst bI;have X:=HN.out;rw [List.take_length] at X;have HF:=I (XZ X);clear X
 exact ej):P:=h
theorem Fc {P:Prop} (h:P:=by
 have HF:=I (show oH nm x p = 4 by rw [pE.out,if_neg (by simp [hS]),if_neg hu,if_neg (by simp [eT]),if_pos cN])
 exact wh):P:=h
theorem C6 {P:Prop} (h:P:=by
 rcases Nat.lt_or_ge j k with h9 | h9
 ·exact HW40.out j hj h9
 ·have:j = k:=by omega
  subst this;exact hv40):P:=h
theorem Fd {P:Prop} (h:P:=by
 rw [Bb.out];have:=vP Le (B':=w.heap.size+1) (by have:=eW.out.size;have:=ia.out.size;omega)
 exact xt):P:=h
theorem Fe {P:Prop} (h:P:=by
 by_cases hc:ar = jj
 ·exact sP
 ·exact ⟨⟨g,jj,none⟩,by simp [hc],rfl,fun q u hu=>by simp at hu⟩):P:=h
theorem Db {P:Prop} (h:P:=by
 rcases Nat.lt_or_ge g w.heap.size with av | nB
 ·exact av
 ·rw [Array.getElem?_eq_none nB] at hh;cases hh):P:=h
theorem ya {P:Prop} (h:P:=by
 clear hs;go_enter Tryz.func100,Tryz.ntmps100
 exact we):P:=h
theorem yb {P:Prop} (h:P:=by
 clear hs;go_enter Tryz.func101,Tryz.ntmps101
 exact we):P:=h
theorem Ff {P:Prop} (h:P:=by
 have h4:(x.equal == y.equal) = true:=by simp [h3]
 go_enter Tryz.func79,Tryz.ntmps79
 exact lP):P:=h
theorem Dd {P:Prop} (h:P:=by
 intro b eo;rcases List.mem_cons.1 eo with rfl | eo
 ·exact ⟨dT,e,hh⟩
 ·exact h.plain b eo):P:=h
theorem yc {P:Prop} (h:P:=by
 clear hs;go_enter Tryz.func82,Tryz.ntmps82
 exact we):P:=h
theorem Cf {P:Prop} (h:P:=by
 unfold en;rw [List.any_eq_false];intro u hu;have:=HQ.out u hu
 simp [this]):P:=h
theorem sU {P:Prop} (h:P:=by
 intro v7 w7 nK Ua li;rw [show 0+jj = jj by omega,List.nil_append] at nK;obtain ⟨g9,p9,hv7,fS,kw,jG⟩:=wW nK J;subst hv7;have bF:Below wn.heap.size wn w7:=Below.grown (cH) Ua fr (fun q hq=>(aM.lt q hq).1)
 exact Mb):P:=h
theorem vK {P:Prop} (h:P:=by
 intro v7 w7 nK Ua li;rw [show 0+jj = jj by omega,List.nil_append] at nK;obtain ⟨g9,p9,hv7,fS,kw,jG⟩:=wW nK J;subst hv7;have bF:Below wn.heap.size wn w7:=Below.grown (bs) Ua hT (fun q hq=>(aM.lt q hq).1)
 exact vI):P:=h
theorem Cl {P:Prop} (h:P:=by
 intro v7 w7 nK Ua li;rw [show 0+jj = jj by omega,List.nil_append] at nK;obtain ⟨g9,p9,hv7,fS,kw,jG⟩:=wW nK J;subst hv7;have bF:Below wn.heap.size wn w7:=Below.grown (bs) Ua hT (fun q hq=>(aM.lt q hq).1)
 exact Ck):P:=h
theorem B7 {P:Prop} (h:P:=by
 intro v7 w7 nK Ua li;rw [show 0+k = k by omega,List.nil_append] at nK;obtain ⟨g9,p9,hv7,fS,kw,jG⟩:=wW nK J;subst hv7;have bF:Below wn.heap.size wn w7:=Below.grown (bs) Ua hT (fun q hq=>(aM.lt q hq).1)
 exact vL):P:=h
theorem Ci {P:Prop} (h:P:=by
 intro v7 w7 nK Ua li;rw [show 0+k = k by omega,List.nil_append] at nK;obtain ⟨g9,p9,hv7,fS,kw,jG⟩:=wW nK J;subst hv7;have bF:Below wn.heap.size wn w7:=Below.grown (bs) Ua hT (fun q hq=>(aM.lt q hq).1)
 exact vW):P:=h
theorem xh {P:Prop} (h:P:=by
 go_wp2;go_ret
 exact ⟨by rw [HF.out];first | rfl | simp,bL⟩):P:=h
theorem Kr (S:Nat) {w:World} {b o k:Nat} {a0 a1:Value} {r:List Value} (h:∀(j:Nat) (u:Value),(a0::a1::r)[j]? = some u→w.cell? ⟨b,o+(k * S+j),none⟩ = some u):w.cell? ⟨b,o+k * S,none⟩ = some a0∧w.cell? ⟨b,o+k * S+1,none⟩ = some a1:=⟨h 0 _ rfl,by rw [Nat.add_assoc];exact h 1 _ rfl⟩
theorem pp (S:Nat) {w:World} {b o k:Nat} {a0 a1 a2:Value} {r:List Value} (h:∀(j:Nat) (u:Value),(a0::a1::a2::r)[j]? = some u→w.cell? ⟨b,o+(k * S+j),none⟩ = some u):w.cell? ⟨b,o+k * S,none⟩ = some a0∧w.cell? ⟨b,o+k * S+1,none⟩ = some a1∧w.cell? ⟨b,o+k * S+2,none⟩ = some a2:=⟨h 0 _ rfl,by rw [Nat.add_assoc];exact h 1 _ rfl,by rw [Nat.add_assoc];exact h 2 _ rfl⟩
theorem Fg (S:Nat) {w:World} {b o k:Nat} {a0 a1 a2 a3:Value} {r:List Value} (h:∀(j:Nat) (u:Value),(a0::a1::a2::a3::r)[j]? = some u→w.cell? ⟨b,o+(k * S+j),none⟩ = some u):w.cell? ⟨b,o+k * S,none⟩ = some a0∧w.cell? ⟨b,o+k * S+1,none⟩ = some a1∧w.cell? ⟨b,o+k * S+2,none⟩ = some a2∧w.cell? ⟨b,o+k * S+3,none⟩ = some a3:=⟨h 0 _ rfl,by rw [Nat.add_assoc];exact h 1 _ rfl,by rw [Nat.add_assoc];exact h 2 _ rfl,by rw [Nat.add_assoc];exact h 3 _ rfl⟩
theorem oI (S:Nat) {w:World} {b o k:Nat} {a0 a1 a2 a3 a4 a5:Value} {r:List Value} (h:∀(j:Nat) (u:Value),(a0::a1::a2::a3::a4::a5::r)[j]? = some u→w.cell? ⟨b,o+(k * S+j),none⟩ = some u):w.cell? ⟨b,o+k * S,none⟩ = some a0∧w.cell? ⟨b,o+k * S+1,none⟩ = some a1∧w.cell? ⟨b,o+k * S+2,none⟩ = some a2∧w.cell? ⟨b,o+k * S+3,none⟩ = some a3∧w.cell? ⟨b,o+k * S+4,none⟩ = some a4∧w.cell? ⟨b,o+k * S+5,none⟩ = some a5:=⟨h 0 _ rfl,by rw [Nat.add_assoc];exact h 1 _ rfl,by rw [Nat.add_assoc];exact h 2 _ rfl,by rw [Nat.add_assoc];exact h 3 _ rfl,by rw [Nat.add_assoc];exact h 4 _ rfl,by rw [Nat.add_assoc];exact h 5 _ rfl⟩
theorem RN (S:Nat) {w:World} {b o k:Nat} {a0 a1 a2 a3 a4 a5 a6:Value} {r:List Value} (h:∀(j:Nat) (u:Value),(a0::a1::a2::a3::a4::a5::a6::r)[j]? = some u→w.cell? ⟨b,o+(k * S+j),none⟩ = some u):w.cell? ⟨b,o+k * S,none⟩ = some a0∧w.cell? ⟨b,o+k * S+1,none⟩ = some a1∧w.cell? ⟨b,o+k * S+2,none⟩ = some a2∧w.cell? ⟨b,o+k * S+3,none⟩ = some a3∧w.cell? ⟨b,o+k * S+4,none⟩ = some a4∧w.cell? ⟨b,o+k * S+5,none⟩ = some a5∧w.cell? ⟨b,o+k * S+6,none⟩ = some a6:=⟨h 0 _ rfl,by rw [Nat.add_assoc];exact h 1 _ rfl,by rw [Nat.add_assoc];exact h 2 _ rfl,by rw [Nat.add_assoc];exact h 3 _ rfl,by rw [Nat.add_assoc];exact h 4 _ rfl,by rw [Nat.add_assoc];exact h 5 _ rfl,by rw [Nat.add_assoc];exact h 6 _ rfl⟩
theorem vN (S:Nat) {w:World} {b o k:Nat} {a0 a1 a2 a3 a4 a5 a6 a7 a8:Value} {r:List Value} (h:∀(j:Nat) (u:Value),(a0::a1::a2::a3::a4::a5::a6::a7::a8::r)[j]? = some u→w.cell? ⟨b,o+(k * S+j),none⟩ = some u):w.cell? ⟨b,o+k * S,none⟩ = some a0∧w.cell? ⟨b,o+k * S+1,none⟩ = some a1∧w.cell? ⟨b,o+k * S+2,none⟩ = some a2∧w.cell? ⟨b,o+k * S+3,none⟩ = some a3∧w.cell? ⟨b,o+k * S+4,none⟩ = some a4∧w.cell? ⟨b,o+k * S+5,none⟩ = some a5∧w.cell? ⟨b,o+k * S+6,none⟩ = some a6∧w.cell? ⟨b,o+k * S+7,none⟩ = some a7∧w.cell? ⟨b,o+k * S+8,none⟩ = some a8:=⟨h 0 _ rfl,by rw [Nat.add_assoc];exact h 1 _ rfl,by rw [Nat.add_assoc];exact h 2 _ rfl,by rw [Nat.add_assoc];exact h 3 _ rfl,by rw [Nat.add_assoc];exact h 4 _ rfl,by rw [Nat.add_assoc];exact h 5 _ rfl,by rw [Nat.add_assoc];exact h 6 _ rfl,by rw [Nat.add_assoc];exact h 7 _ rfl,by rw [Nat.add_assoc];exact h 8 _ rfl⟩
theorem r' {n:Nat} {w w':World} {p:Addr} {u:Value} (h:Below n w w') (k:w.cell? p = some u) (hp:p.block < n):w'.cell? p = some u:=(h.cell hp).trans k
theorem H' {P:Prop} (h:P:=by exact fun _ _ d _ _ h=>by cases d <;> exact h):P:=h
theorem W' {P:Prop} (h:P:=by refine Or.inl ⟨rfl,fun wq hq=>?_⟩;have dE:=(aB hq).1;go_simp;try rfl):P:=h
theorem sq {a b:Nat} (hs:a≤b) {P:Prop} (h:a≤b→P:=by intro this;(try simp at this);omega):P:=h hs
theorem pz:(∀{α:Type} (a:List α) (i:Nat) (v:α),a.toArray.setIfInBounds i v = (a.set i v).toArray)∧(∀{α:Type} (x y:α) (l:List α),(x :: l).set 0 y = y :: l)∧(∀{α:Type} (x y:α) (l:List α) (n:Nat),(x :: l).set (n+1) y = x :: l.set n y):=⟨fun _ _ _=>List.setIfInBounds_toArray ..,fun _ _ _=>rfl,fun _ _ _ _=>rfl⟩
theorem bL {P:Prop} (h:P:=by repeat (first | with_reducible exact aj _ | with_reducible assumption | with_reducible refine ak ?_ _ | with_reducible refine ah ?_ (by assumption))) : P := h
theorem b9 {P:Prop} (h:P:=by repeat (first | with_reducible exact aj _ | with_reducible assumption | with_reducible refine ak ?_ _ | with_reducible refine aA ?_ | with_reducible refine ah ?_ (by assumption))) : P := h
theorem RO {P:Prop} (h:P:=by first | exact hq | exact hq.out) : P := h
theorem AZ {P:Prop} (h:P:=by repeat (first | with_reducible exact hq | with_reducible exact hq.out | with_reducible exact aj _ | with_reducible assumption | with_reducible refine ak ?_ _ | with_reducible refine ah ?_ RO | with_reducible refine ah ?_ (by assumption))) : P := h
theorem bC {P:Prop} (h:P:=by dsimp only;omega) : P := h
theorem RP {P:Prop} (h:P:=by decide +kernel) : P := h
theorem j4 {P:Prop} (h:P:=by unfold maxLen;omega) : P := h
theorem ew {P:Prop} (h:P:=by simp [World.setCell]) : P := h
theorem et {P:Prop} (h:P:=by simp [Value.oneCell']) : P := h
theorem oL {P:Prop} (h:P:=by first | exact ba | exact aj _) : P := h
theorem iN {P:Prop} (h:P:=by first | rfl | (simp;rfl)) : P := h
theorem X9 {P:Prop} (h:P:=by unfold Func.isWrapper;first | (rw [if_pos RP];kernel_rfl) | (rw [if_neg RP];exact ⟨rfl,rfl⟩)) : P := h
theorem Ki {P:Prop} (h:P:=by first | assumption | (unfold bt;omega)) : P := h
theorem pD {P:Prop} (h:P:=by repeat (first | with_reducible exact aj _ | with_reducible assumption | with_reducible refine aC ?_ bC _ | with_reducible refine ak ?_ _ | with_reducible refine aA ?_ | with_reducible refine ah ?_ (by assumption))) : P := h
theorem uk {P:Prop} (h:P:=by simp only [Act.put,pz];rfl) : P := h
theorem Kv {P:Prop} (h:P:=by show w.heap.size+1+1 < _;omega) : P := h
theorem Kw {P:Prop} (h:P:=by intro e;have:=hr _ e.symm;omega) : P := h
theorem Rh {P:Prop} (h:P:=by repeat (first | with_reducible exact RZ.out | with_reducible refine am.setCell ?_ bC _)) : P := h
theorem AW {P:Prop} (h:P:=by first | exact hq | exact ah (ak (aj _) _) hq) : P := h
theorem oM {P:Prop} (h:P:=by unfold bt;omega) : P := h
theorem fm {P:Prop} (h:P:=by have:=(Qz).size;omega) : P := h
theorem fr {P:Prop} (h:P:=by have:=(cH).size;omega) : P := h
theorem hT {P:Prop} (h:P:=by have:=(bs).size;omega) : P := h
theorem ub {P:Prop} (h:P:=by rw [List.length_map,HJ.out,Nat.mul_one]) : P := h
theorem X' {P:Prop} (h:P:=by first | exact Nat.le_refl _ | (dsimp only;omega)) : P := h
theorem MD {P:Prop} (h:P:=by dsimp only;have:=HS.out.lt;omega) : P := h
theorem rN {P:Prop} (h:P:=by repeat (first | with_reducible exact b4 | with_reducible exact aj _ | with_reducible assumption | with_reducible refine ak ?_ _ | with_reducible refine ah ?_ (by assumption))) : P := h
theorem AU {P:Prop} (h:P:=by first | exact ah b4 hq | exact ah (ak b4 _) hq | exact ah b4 hq.out | exact ah (ak b4 _) hq.out) : P := h
theorem Yc {P:Prop} (h:P:=by obtain ⟨d0,hs⟩:=fF hA;rw [hs];rfl) : P := h
theorem iC {P:Prop} (h:P:=by rw [Addr.add_lit];exact eZ) : P := h
theorem Yd {P:Prop} (h:P:=by first | rfl | go_num) : P := h
theorem Kx {P:Prop} (h:P:=by dsimp only;first | omega | (have:=nF.lt;omega)) : P := h
theorem ME {P:Prop} (h:P:=by repeat (first | with_reducible exact HS.out.aE | with_reducible refine aC ?_ X' _)) : P := h
theorem Ky {P:Prop} (h:P:=by first | exact hq | exact hq.out | exact ah (ak (aj _) _) hq) : P := h
theorem MG {P:Prop} (h:P:=by simp [Value.ownBlock]) : P := h
theorem yd {P:Prop} (h:P:=by have:=hF y hy;dsimp only;omega) : P := h
theorem Ye {P:Prop} (h:P:=by simpa using h) : P := h
theorem Yf {P:Prop} (h:P:=by first | exact Nat.le_refl _ | (simp [World.setCell];done) | (simp [World.setCell];omega)) : P := h
theorem MH {P:Prop} (h:P:=by dsimp only;first | omega | (have:=ye.lt;omega)) : P := h
theorem Yg {P:Prop} (h:P:=by have:=h.aE.size;omega) : P := h
theorem MI {P:Prop} (h:P:=by unfold kA;with_reducible exact (ak lT _)) : P := h
theorem Yh {P:Prop} (h:P:=by simpa using hi) : P := h
theorem AS {P:Prop} (h:P:=by rw [HE.out];simp) : P := h
theorem MJ {P:Prop} (h:P:=by rw [List.length_take];omega) : P := h
theorem RQ {P:Prop} (h:P:=by have:=aK.size;(try simp);omega) : P := h
theorem KA {P:Prop} (h:P:=by have:=aK.size;simp;omega) : P := h
theorem yf {P:Prop} (h:P:=by rw [List.length_map,HJ.out];omega) : P := h
theorem kB {P:Prop} (h:P:=by have:=bF.size;omega) : P := h
theorem RS {P:Prop} (h:P:=by have:=hg.size;simpa using this) : P := h
theorem RT {P:Prop} (h:P:=by unfold i';rw [dq,cR]) : P := h
theorem Yi {P:Prop} (h:P:=by unfold Em;rw [fq];simp) : P := h
theorem Yj {P:Prop} (h:P:=by unfold Em;rw [ik];simp) : P := h
theorem Yk {P:Prop} (h:P:=by unfold Em;simp [hh2]) : P := h
theorem Yl {P:Prop} (h:P:=by unfold Em;simp [hh1]) : P := h
theorem XL {P:Prop} (h:P:=by rw [sG av,sr];rfl) : P := h
theorem RU {P:Prop} (h:P:=by dsimp only;first | omega | (have:=nG.lt;omega)) : P := h
theorem RW {P:Prop} (h:P:=by repeat (first | with_reducible exact fT.out | with_reducible refine am.setCell ?_ MD _)) : P := h
theorem RY {P:Prop} (h:P:=by repeat (first | with_reducible exact RZ.out | with_reducible refine am.setCell ?_ MD _)) : P := h
theorem Yp {P:Prop} (h:P:=by repeat (first | with_reducible exact HO.out | with_reducible refine am.setCell ?_ bC _)) : P := h
theorem MM {P:Prop} (h:P:=by unfold KF;rw [gN]) : P := h
theorem KJ {P:Prop} (h:P:=by rw [h] at hr;cases hr) : P := h
theorem KM {P:Prop} (h:P:=by rw [cell_of_row _ _ _ _ _ _ (heap_alloc_new wr _)];rfl) : P := h
theorem KQ {P:Prop} (h:P:=by rw [List.length_map];exact hl) : P := h
theorem KS {P:Prop} (h:P:=by rw [YC av HP.out];exact cA) : P := h
theorem KU {P:Prop} (h:P:=by have:=bs.size;simp;omega) : P := h
theorem Yq {P:Prop} (h:P:=by intro e;have:=hr _ e.symm;have:=hF y hy;omega) : P := h
theorem MN {P:Prop} (h:P:=by have:=aK.size;have:=bx.size;(try simp);omega) : P := h
theorem eu {P:Prop} (h:P:=by first | exact mK | (dsimp only;omega)) : P := h
theorem rC {P:Prop} (h:P:=by rw [Addr.add_lit];exact cw.block (wn.heap.size+1) (by simp) MG) : P := h
theorem rE {P:Prop} (h:P:=by rw [Addr.add_lit];exact (cw.block wn.heap.size (by simp;omega) MG).trans (heap_alloc_old _ _ (by simp))) : P := h
theorem XR {P:Prop} (h:P:=by have:=lp.out.size;have:=bF.size;omega) : P := h
theorem Re {P:Prop} (h:P:=by rw [List.length_append,HJ.out];rfl) : P := h
theorem KV {P:Prop} (h:P:=by rw [List.length_map,mn.out,Nat.mul_one]) : P := h
theorem AP {P:Prop} (h:P:=by repeat (first | with_reducible exact mm.out | with_reducible refine am.setCell ?_ bC _)) : P := h
theorem AH {P:Prop} (h:P:=by rw [List.length_take,gg];omega) : P := h
theorem R3 {P:Prop} (h:P:=by have:=HJ.out;omega) : P := h
theorem pN {P:Prop} (h:P:=by first | exact lv | (dsimp only;omega)) : P := h
theorem KW {P:Prop} (h:P:=by simpa using hk) : P := h
theorem Rf {P:Prop} (h:P:=by repeat (first | with_reducible exact hO | with_reducible refine am.setCell ?_ bC _)) : P := h
theorem Rg {P:Prop} (h:P:=by repeat (first | with_reducible exact hB | with_reducible refine aC ?_ bC _)) : P := h
theorem De {P:Prop} (h:P:=by rw [HR.out];simp) : P := h
theorem s8 {P:Prop} (h:P:=by rw [List.getElem?_append_right R3,show jj - s1.length = 0 by have:=HJ.out;omega];rfl) : P := h
theorem Rm {P:Prop} (h:P:=by repeat (first | with_reducible exact hO | with_reducible refine am.setCell ?_ bC _ | with_reducible refine am.alloc ?_ _)) : P := h
theorem Rn {P:Prop} (h:P:=by repeat (first | with_reducible exact hB | with_reducible refine aC ?_ bC _ | with_reducible refine ak ?_ _)) : P := h
theorem Kk {P:Prop} (h:P:=by repeat (first | with_reducible exact AN.out.aE | with_reducible refine aC ?_ bC _)) : P := h
theorem KX {P:Prop} (h:P:=by unfold bt;dsimp only;omega) : P := h
theorem Kn {P:Prop} (h:P:=by rw [cI];exact vP lm.out (B':=w.heap.size+1+1+1) (by omega)) : P := h
theorem XY {P:Prop} (h:P:=by repeat (first | with_reducible exact ul.out | with_reducible refine am.setCell ?_ bC _ | with_reducible refine Yu ?_ oB.out)) : P := h
theorem MB {P:Prop} (h:P:=by rw [kC (row:=gM) (S:=2) (fun _=>rfl),HJ.out]) : P := h
theorem Mf {P:Prop} (h:P:=by rw [List.length_take,KY.out];omega) : P := h
theorem MA {P:Prop} (h:P:=by rw [kC (row:=gn) (S:=3) (fun _=>rfl),HJ.out]) : P := h
theorem Mz {P:Prop} (h:P:=by rw [kC (row:=gf) (S:=4) (fun _=>rfl),HJ.out]) : P := h
theorem L' {P:Prop} (h:P:=by simpa using h2) : P := h
theorem KZ {P:Prop} (h:P:=by rw [dp];exact da) : P := h
theorem K0 {P:Prop} (h:P:=by have:=Fh.out;rw [HN.out] at this;exact this) : P := h
theorem K1 {P:Prop} (h:P:=by rw [List.length_drop,gg];omega) : P := h
theorem RE {P:Prop} (h:P:=by rw [Jf.out,HI.out];exact dr.out) : P := h
theorem R5 {P:Prop} (h:P:=by simp [World.setCell,Array.getElem?_modify,h]) : P := h
theorem MO {P:Prop} (h:P:=by unfold kA;with_reducible exact (aC (p:=⟨wr.heap.size,5,none⟩) (aC (p:=⟨wr.heap.size,4,none⟩) (aC (p:=⟨wr.heap.size,3,none⟩) (aC (p:=⟨wr.heap.size,2,none⟩) (aC (p:=⟨wr.heap.size,1,none⟩) (aC (p:=⟨wr.heap.size,0,none⟩) ba mo (.slice Nj r.V.length Nk)) mo (.slice SB r.O.length SC)) mo (.int .i64 r.next)) mo (.int .i64 r.weights.pack)) mo (.int .i64 r.weights.af)) mo (.int .i64 r.weights.an))) : P := h
theorem MP {P:Prop} (h:P:=by rw [HE.out,List.getElem?_map,List.getElem?_append_right R3,show jj - s1.length = 0 by have:=HJ.out;omega];rfl) : P := h
theorem ay {W w1:World} (U:Below W.heap.size W w1):(∀b o,b < W.heap.size→w1.cell? ⟨b,o,none⟩ = W.cell? ⟨b,o,none⟩)∧(∀b o,b < W.heap.size→w1.frozen? ⟨b,o,none⟩ = W.frozen? ⟨b,o,none⟩) :=
 ⟨fun b o h=>U.cell (p:=⟨b,o,none⟩) h,fun b o h=>U.frozen (p:=⟨b,o,none⟩) h⟩
theorem aj (w:World):Below w.heap.size w w:=Below.refl _ _
theorem ah {w w1 w2:World} (h:Below w.heap.size w w1) (k:Below w1.heap.size w1 w2):Below w.heap.size w w2:=h.trans (k.mono h.size)
theorem ak {w w1:World} (h:Below w.heap.size w w1) (o:Obj):Below w.heap.size w (w1.alloc o):=h.alloc h.size o
theorem aA {w w1:World} (h:Below w.heap.size w w1):Below w.heap.size w w1.drew:=h.drew
theorem aC {w w1:World} (h:Below w.heap.size w w1) {p:Addr} (hp:w.heap.size≤p.block) (u:Value):Below w.heap.size w (w1.setCell p u):=h.setCell hp u
section
variable {H:Type} {enc:TypeId × Value→H} {P:Program}
theorem Zi {W W':World} (hl:laidOutB P = true) (U:Below W.heap.size W W'):∀(ts:List TypeId) (vs:List Value) (ds:List (DataW H)) (ps:List MemPlace) (sp:Nat→Bool),
 (∀t∈ts,P.readableRec t = true∧t < P.types.size)→(∀x∈ps,x.block < W.heap.size)→(∀x∈ps,sp x.block = true) →
 DataW.TrodAll enc P W 0 (fun _=>true) true ts vs ds ps→DataW.TrodAll enc P W' 0 sp true ts vs ds ps
 | [],[],[],ps,sp,_,_,_,h=>h
 | t :: ts,v :: vs,d :: ds,ps,sp,ht,av,ju,h=>by
   obtain ⟨p,q,Z,h2,rfl⟩:=h;refine ⟨p,q,?_,Zi hl U ts vs ds q sp (fun t' h'=>ht t' (List.mem_cons_of_mem _ h')) (fun x hx=>av x (List.mem_append_right _ hx)) (fun x hx=>ju x (List.mem_append_right _ hx)) h2,rfl⟩;obtain ⟨hr,hs⟩:=ht t (List.mem_cons_self ..);exact WideElems.Trod_stays hl hr hs Z (fun x hx=>U.same (av x (List.mem_append_left _ hx))) (fun x hx=>ju x (List.mem_append_left _ hx))
 | [],_ :: _,_,_,_,_,_,_,h=>by simp [DataW.TrodAll] at h
 | [],[],_ :: _,_,_,_,_,_,h=>by simp [DataW.TrodAll] at h
 | _ :: _,[],_,_,_,_,_,_,h=>by simp [DataW.TrodAll] at h
 | _ :: _,_ :: _,[],_,_,_,_,_,h=>by simp [DataW.TrodAll] at h
theorem nO {f:Func} {s:ChangeSpec} {apart Fi s9:Bool} {W W':World} {args:Array Value} {ds gs:List (DataW H)} {kD:List MemPlace} {tb:TypeId}
 (hl:laidOutB P = true) (hr:∀t∈f.params.toList,P.readableRec t = true∧t < P.types.size) (Yv:f.resultTypes = #[tb]) (K2:P.underlying tb = some .bool)
 (uz:s.vars = []) (ky:s.fn H ds = { results:=[.lit (.bool true)],args:=ds,vars:=[] })
 (hW:DataW.Whole enc P f.params.toList s.vars apart W args.toList ds gs kD) (U:Below W.heap.size W W') :
 s.post enc P f apart Fi s9 false W args (.bool true) W':=by
 have av:∀p∈kD,p.block < W.heap.size:=fun p hp=>hW.lt p hp;have pP:=hW;obtain ⟨p,q,hA,hV,rfl,hz,X⟩:=pP;rw [uz] at hV;obtain ⟨rfl,rfl⟩:=trodVars_none hV;simp only [List.append_nil] at *;have yh:∀(b:Nat) (sp:Nat→Bool) (hd:Bool),DataW.TrodAll enc P W' b sp hd f.resultTypes.toList ((Value.bool true).resultList f.resultTypes.size) (s.fn H (ds++[])).results []:=by intro b sp hd;rw [Yv,List.append_nil,ky];exact trodAll_cons_mk (shut_bool K2 _) trodAll_mk0
 have uA:∀sp:Nat→Bool,(∀x∈p,sp x.block = true)→DataW.TrodAll enc P W' 0 sp true f.params.toList args.toList (s.fn H (ds++[])).args p:=by intro sp ju;rw [List.append_nil,ky];exact Zi hl U _ _ _ _ _ hr av ju hA
 have mL:∀sp:Nat→Bool,DataW.TrodVars enc P W' sp s.vars (s.fn H (ds++[])).vars []:=by intro sp;rw [List.append_nil,ky,uz];rfl
 have hold:∀x∈p,(fun b=>decide (b < W.heap.size)) x.block = true:=fun x hx=>by simpa using av x hx
 refine ⟨ds,[],p,[],p,[],hW,yh _ _ _,uA _ hold,mL _,World.keptBut_mono (fun x hx=>⟨hx,by simpa using hx⟩) (U.frame (·∈p)),fun Yw=>by cases Yw⟩
end
end Go.Proofs.YtajbbmembionpaaGreat
