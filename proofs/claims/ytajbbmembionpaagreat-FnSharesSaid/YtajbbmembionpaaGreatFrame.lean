/- The frame of every law's proof: if the call returns true and leaves what was there as it was, the given post holds. No condition. -/
import Derived.Test.YtajbbmembionpaaGreatRows
import Derived.Lib.Hide
import Derived.BigQuiet
import Derived.WalkSpells
import Derived.Deep.AppendLies
import Derived.Deep.Slices
import Derived.Handy
namespace Go.Proofs.YtajbbmembionpaaGreat
open Go.ChangeShapes Go.WideShapes Go.ChangeAt Go.RowKit
set_option maxRecDepth 100000
theorem I {P:Prop} (h:P):Hid P:=Lib.hid h
theorem J {P:Prop} (h:P:=by omega):P:=h
theorem O {P:Prop} (h:P:=by rfl):P:=h
theorem U' {P:Prop} (h:P:=by kernel_rfl):P:=h
theorem S' {P:Prop} (h:P:=by simp):P:=h
theorem N' {P:Prop} (h:P:=by go_num):P:=h
theorem Y' {P:Prop} (h:P:=by assumption):P:=h
theorem vD {P:Prop} (h:P:=by
 intro HK;have aK:Below wn.heap.size wn wn.drew:=aA (aj _);refine aX 1 _ O U' H' aK W' ?_;try simp only [Act.put,pz]
 refine aX 2 _ O U' H' aK W' ?_;try simp only [Act.put,pz]
 refine aX 3 _ O U' H' aK W' ?_;try simp only [Act.put,pz]
 refine aX 5 _ O U' H' aK W' ?_;try simp only [Act.put,pz]
 refine aX 6 _ O U' H' aK W' ?_;try simp only [Act.put,pz]
 refine aX 7 _ O U' H' aK W' ?_;try simp only [Act.put,pz]
 refine aX 8 _ O U' H' aK W' ?_;try simp only [Act.put,pz]
 refine D7 0 9 O O U' O O (fun K hK=>?_) (fun K hK=>?_)
 ·go_simp;refine hK _ _ (ak aK (.cells #[] 9)) ?_;try simp only [Act.put,pz]
  clear hK K;have Qz:=ak aK (.cells #[] 9);have KI:=D9 wn.drew 9 1 wn.heap.size rfl;refine D7 4 9 O O U' O O (fun K hK=>?_) (fun K hK=>?_)
  ·refine qQ qw _ _ O (wn.drew.alloc (.cells #[] 9)) wn.heap.size _ 0 [] KI O ⟨g,0,none⟩ jj aq ((s1.map Value.string)) O ue (fun q u hu=>(Qz.cell (p:=(⟨g,0,none⟩:Addr).add q) iB).trans (eo.out q u hu)) (fun u hu=>by obtain ⟨z0,_,rfl⟩:=List.mem_map.1 hu;rfl) J J fg ?_;intro v5 w5 aL b8 fh;have bv:Below wn.heap.size wn w5:=Below.grown (Qz) b8 fg (fun q hq=>(KI.lt q hq).1);refine hK _ _ bv ?_;try simp only [Act.put,pz]
   clear hK K;refine bP 9 O U' O (fun K hK=>?_);go_simp;refine hK _ _ (ak bv (.cells #[.string y] 9)) ?_;try simp only [Act.put,pz]
   clear hK K;have cC:=ak bv (.cells #[.string y] 9);refine bP 10 O U' O (fun K hK=>?_);refine qQ qw _ _ O (w5.alloc (.cells #[.string y] 9)) wn.heap.size v5 _ _ (mG aL (ak (aj _) _)) O ⟨w5.heap.size,0,none⟩ 1 1 [.string y] O O (DI w5 9 [.string y] w5.heap.size rfl) (fun u hu=>by rw [List.mem_singleton.1 hu];rfl) J J fo ?_;intro v7 w7 nK Ua lp;rw [show 0+jj = jj by omega,List.nil_append] at nK;obtain ⟨g9,p9,hv7,fI,kz,jH⟩:=wW nK J;subst hv7;have bC:Below wn.heap.size wn w7:=Below.grown (cC) Ua fo (fun q hq=>(aL.lt q hq).1);exact vE
  ·go_simp;refine hK _ _ (ak Qz (.cells #[.string y] 9)) ?_;try simp only [Act.put,pz]
   clear hK K;have cC:=ak Qz (.cells #[.string y] 9);replace KI:=mG KI (ak (aj _) (.cells #[.string y] 9));refine bP 4 O U' O (fun K hK=>?_);refine qQ qw _ _ O ((wn.drew.alloc (.cells #[] 9)).alloc (.cells #[.string y] 9)) wn.heap.size _ 0 [] KI O ⟨g,0,none⟩ jj aq ((s1.map Value.string)) O ue (fun q u hu=>(cC.cell (p:=(⟨g,0,none⟩:Addr).add q) iB).trans (eo.out q u hu)) (fun u hu=>by obtain ⟨z0,_,rfl⟩:=List.mem_map.1 hu;rfl) J J fo ?_;intro v5 w5 aL b8 fh;have bv:Below wn.heap.size wn w5:=Below.grown (cC) b8 fo (fun q hq=>(KI.lt q hq).1);refine hK _ _ bv ?_;try simp only [Act.put,pz]
   clear hK K;refine bP 10 O U' O (fun K hK=>?_);refine qQ qw _ _ O w5 wn.heap.size v5 _ _ aL O ⟨wn.heap.size+1,0,none⟩ 1 1 [.string y] O O (fun q u hu=>(World.cell?_of_block sc).trans ((DI (wn.drew.alloc (.cells #[] 9)) 9 [.string y] (wn.heap.size+1) S') q u hu)) (fun u hu=>by rw [List.mem_singleton.1 hu];rfl) J J hJ ?_;exact vF
 ·go_simp;refine hK _ _ (ak aK (.cells #[.string y] 9)) ?_;try simp only [Act.put,pz]
  clear hK K;have cC:=ak aK (.cells #[.string y] 9);refine bP 0 O U' O (fun K hK=>?_);go_simp;refine hK _ _ (ak cC (.cells #[] 9)) ?_;try simp only [Act.put,pz]
  clear hK K;have Qz:=ak cC (.cells #[] 9);have KI:=vP (D9 (wn.drew.alloc (.cells #[.string y] 9)) 9 1 (wn.heap.size+1) S') (B':=wn.heap.size) J;refine bP 4 O U' O (fun K hK=>?_);refine qQ qw _ _ O ((wn.drew.alloc (.cells #[.string y] 9)).alloc (.cells #[] 9)) wn.heap.size _ 0 [] KI O ⟨g,0,none⟩ jj aq ((s1.map Value.string)) O ue (fun q u hu=>(Qz.cell (p:=(⟨g,0,none⟩:Addr).add q) iB).trans (eo.out q u hu)) (fun u hu=>by obtain ⟨z0,_,rfl⟩:=List.mem_map.1 hu;rfl) J J fg ?_;intro v5 w5 aL b8 fh;have bv:Below wn.heap.size wn w5:=Below.grown (Qz) b8 fg (fun q hq=>(KI.lt q hq).1);refine hK _ _ bv ?_;try simp only [Act.put,pz]
  clear hK K;refine bP 10 O U' O (fun K hK=>?_);refine qQ qw _ _ O w5 wn.heap.size v5 _ _ aL O ⟨wn.heap.size,0,none⟩ 1 1 [.string y] O O (fun q u hu=>(World.cell?_of_block sd).trans ((DI wn.drew 9 [.string y] wn.heap.size rfl) q u hu)) (fun u hu=>by rw [List.mem_singleton.1 hu];rfl) J J hJ ?_
  exact vF):P:=h
theorem lO {P:Prop} (h:P:=by
 exact vF):P:=h
theorem K7 {P:Prop} (h:P:=by
 exact vE):P:=h
theorem BB {P:Prop} (h:P:=by
 intro HK;have aK:Below wn.heap.size wn wn.drew:=aA (aj _);refine aX 1 _ O U' H' aK W' ?_;try simp only [Act.put,pz]
 refine aX 2 _ O U' H' aK W' ?_;try simp only [Act.put,pz]
 refine aX 3 _ O U' H' aK W' ?_;try simp only [Act.put,pz]
 refine aX 4 _ O U' H' aK W' ?_;try simp only [Act.put,pz]
 refine aX 6 _ O U' H' aK W' ?_;try simp only [Act.put,pz]
 refine aX 7 _ O U' H' aK W' ?_;try simp only [Act.put,pz]
 refine aX 8 _ O U' H' aK W' ?_;try simp only [Act.put,pz]
 refine aX 9 _ O U' H' aK W' ?_;try simp only [Act.put,pz]
 refine D7 0 10 O O U' O O (fun K hK=>?_) (fun K hK=>?_)
 ·go_simp;refine hK _ _ (ak aK (.cells #[] 53)) ?_;try simp only [Act.put,pz]
  clear hK K;have Qz:=ak aK (.cells #[] 53);have KI:=D9 wn.drew 53 9 wn.heap.size rfl;refine D7 5 10 O O U' O O (fun K hK=>?_) (fun K hK=>?_)
  ·refine qQ mK _ _ O (wn.drew.alloc (.cells #[] 53)) wn.heap.size _ 0 [] KI O ⟨g,0,none⟩ k dJ ((ds.take (k * 9))) O Ab (fun q u hu=>(Qz.cell (p:=(⟨g,0,none⟩:Addr).add q) iB).trans (eo.out q u hu)) (fun u hu=>iX.out u (List.mem_of_mem_take hu)) J J fg ?_;intro v5 w5 aL b8 fh;have bv:Below wn.heap.size wn w5:=Below.grown (Qz) b8 fg (fun q hq=>(KI.lt q hq).1);refine hK _ _ bv ?_;try simp only [Act.put,pz]
   clear hK K;refine bP 10 O U' O (fun K hK=>?_);go_simp;refine hK _ _ (ak bv (.cells #[.string n.name,.slice bY n.labels.length bZ,.int .i64 n.az,.int .i64 n.mem,.int .i64 n.aw,.slice eU n.ai.length eX,.slice bg n.ae.length bn,.string ⟨#[]⟩,.int .i64 x.next] 53)) ?_;try simp only [Act.put,pz]
   clear hK K;have cC:=ak bv (.cells #[.string n.name,.slice bY n.labels.length bZ,.int .i64 n.az,.int .i64 n.mem,.int .i64 n.aw,.slice eU n.ai.length eX,.slice bg n.ae.length bn,.string ⟨#[]⟩,.int .i64 x.next] 53);refine bP 11 O U' O (fun K hK=>?_);refine qQ mK _ _ O (w5.alloc (.cells #[.string n.name,.slice bY n.labels.length bZ,.int .i64 n.az,.int .i64 n.mem,.int .i64 n.aw,.slice eU n.ai.length eX,.slice bg n.ae.length bn,.string ⟨#[]⟩,.int .i64 x.next] 53)) wn.heap.size v5 _ _ (mG aL (ak (aj _) _)) O ⟨w5.heap.size,0,none⟩ 1 1 [.string n.name,.slice bY n.labels.length bZ,.int .i64 n.az,.int .i64 n.mem,.int .i64 n.aw,.slice eU n.ai.length eX,.slice bg n.ae.length bn,.string ⟨#[]⟩,.int .i64 x.next] O O (DI w5 53 [.string n.name,.slice bY n.labels.length bZ,.int .i64 n.az,.int .i64 n.mem,.int .i64 n.aw,.slice eU n.ai.length eX,.slice bg n.ae.length bn,.string ⟨#[]⟩,.int .i64 x.next] w5.heap.size rfl) jI.out J J fo ?_;intro v7 w7 nK Ua lp;rw [show 0+k = k by omega,List.nil_append] at nK;obtain ⟨g9,p9,hv7,fI,kz,jH⟩:=wW nK J;subst hv7;have bC:Below wn.heap.size wn w7:=Below.grown (cC) Ua fo (fun q hq=>(aL.lt q hq).1);exact vG
  ·go_simp;refine hK _ _ (ak Qz (.cells #[.string n.name,.slice bY n.labels.length bZ,.int .i64 n.az,.int .i64 n.mem,.int .i64 n.aw,.slice eU n.ai.length eX,.slice bg n.ae.length bn,.string ⟨#[]⟩,.int .i64 x.next] 53)) ?_;try simp only [Act.put,pz]
   clear hK K;have cC:=ak Qz (.cells #[.string n.name,.slice bY n.labels.length bZ,.int .i64 n.az,.int .i64 n.mem,.int .i64 n.aw,.slice eU n.ai.length eX,.slice bg n.ae.length bn,.string ⟨#[]⟩,.int .i64 x.next] 53);replace KI:=mG KI (ak (aj _) (.cells #[.string n.name,.slice bY n.labels.length bZ,.int .i64 n.az,.int .i64 n.mem,.int .i64 n.aw,.slice eU n.ai.length eX,.slice bg n.ae.length bn,.string ⟨#[]⟩,.int .i64 x.next] 53));refine bP 5 O U' O (fun K hK=>?_);refine qQ mK _ _ O ((wn.drew.alloc (.cells #[] 53)).alloc (.cells #[.string n.name,.slice bY n.labels.length bZ,.int .i64 n.az,.int .i64 n.mem,.int .i64 n.aw,.slice eU n.ai.length eX,.slice bg n.ae.length bn,.string ⟨#[]⟩,.int .i64 x.next] 53)) wn.heap.size _ 0 [] KI O ⟨g,0,none⟩ k dJ ((ds.take (k * 9))) O Ab (fun q u hu=>(cC.cell (p:=(⟨g,0,none⟩:Addr).add q) iB).trans (eo.out q u hu)) (fun u hu=>iX.out u (List.mem_of_mem_take hu)) J J fo ?_;intro v5 w5 aL b8 fh;have bv:Below wn.heap.size wn w5:=Below.grown (cC) b8 fo (fun q hq=>(KI.lt q hq).1);refine hK _ _ bv ?_;try simp only [Act.put,pz]
   clear hK K;refine bP 11 O U' O (fun K hK=>?_);refine qQ mK _ _ O w5 wn.heap.size v5 _ _ aL O ⟨wn.heap.size+1,0,none⟩ 1 1 [.string n.name,.slice bY n.labels.length bZ,.int .i64 n.az,.int .i64 n.mem,.int .i64 n.aw,.slice eU n.ai.length eX,.slice bg n.ae.length bn,.string ⟨#[]⟩,.int .i64 x.next] O O (fun q u hu=>(World.cell?_of_block sc).trans ((DI (wn.drew.alloc (.cells #[] 53)) 53 [.string n.name,.slice bY n.labels.length bZ,.int .i64 n.az,.int .i64 n.mem,.int .i64 n.aw,.slice eU n.ai.length eX,.slice bg n.ae.length bn,.string ⟨#[]⟩,.int .i64 x.next] (wn.heap.size+1) S') q u hu)) jI.out J J hJ ?_;exact BC
 ·go_simp;refine hK _ _ (ak aK (.cells #[.string n.name,.slice bY n.labels.length bZ,.int .i64 n.az,.int .i64 n.mem,.int .i64 n.aw,.slice eU n.ai.length eX,.slice bg n.ae.length bn,.string ⟨#[]⟩,.int .i64 x.next] 53)) ?_;try simp only [Act.put,pz]
  clear hK K;have cC:=ak aK (.cells #[.string n.name,.slice bY n.labels.length bZ,.int .i64 n.az,.int .i64 n.mem,.int .i64 n.aw,.slice eU n.ai.length eX,.slice bg n.ae.length bn,.string ⟨#[]⟩,.int .i64 x.next] 53);refine bP 0 O U' O (fun K hK=>?_);go_simp;refine hK _ _ (ak cC (.cells #[] 53)) ?_;try simp only [Act.put,pz]
  clear hK K;have Qz:=ak cC (.cells #[] 53);have KI:=vP (D9 (wn.drew.alloc (.cells #[.string n.name,.slice bY n.labels.length bZ,.int .i64 n.az,.int .i64 n.mem,.int .i64 n.aw,.slice eU n.ai.length eX,.slice bg n.ae.length bn,.string ⟨#[]⟩,.int .i64 x.next] 53)) 53 9 (wn.heap.size+1) S') (B':=wn.heap.size) J;refine bP 5 O U' O (fun K hK=>?_);refine qQ mK _ _ O ((wn.drew.alloc (.cells #[.string n.name,.slice bY n.labels.length bZ,.int .i64 n.az,.int .i64 n.mem,.int .i64 n.aw,.slice eU n.ai.length eX,.slice bg n.ae.length bn,.string ⟨#[]⟩,.int .i64 x.next] 53)).alloc (.cells #[] 53)) wn.heap.size _ 0 [] KI O ⟨g,0,none⟩ k dJ ((ds.take (k * 9))) O Ab (fun q u hu=>(Qz.cell (p:=(⟨g,0,none⟩:Addr).add q) iB).trans (eo.out q u hu)) (fun u hu=>iX.out u (List.mem_of_mem_take hu)) J J fg ?_;intro v5 w5 aL b8 fh;have bv:Below wn.heap.size wn w5:=Below.grown (Qz) b8 fg (fun q hq=>(KI.lt q hq).1);refine hK _ _ bv ?_;try simp only [Act.put,pz]
  clear hK K;refine bP 11 O U' O (fun K hK=>?_);refine qQ mK _ _ O w5 wn.heap.size v5 _ _ aL O ⟨wn.heap.size,0,none⟩ 1 1 [.string n.name,.slice bY n.labels.length bZ,.int .i64 n.az,.int .i64 n.mem,.int .i64 n.aw,.slice eU n.ai.length eX,.slice bg n.ae.length bn,.string ⟨#[]⟩,.int .i64 x.next] O O (fun q u hu=>(World.cell?_of_block sd).trans ((DI wn.drew 53 [.string n.name,.slice bY n.labels.length bZ,.int .i64 n.az,.int .i64 n.mem,.int .i64 n.aw,.slice eU n.ai.length eX,.slice bg n.ae.length bn,.string ⟨#[]⟩,.int .i64 x.next] wn.heap.size rfl) q u hu)) jI.out J J hJ ?_
  exact BC):P:=h
theorem BE {P:Prop} (h:P:=by
 try simp only [Bool.and_false,Bool.and_true,Bool.false_and,Bool.and_self] at hp
 have HN:=I (gq hall.out hp);clear hp;go_wp2_with fail
 skip
 refine aF _ U' U' (aj _) ?_
 repeat ((first | refine aG O ?_ | refine aH _ O BP ?_);simp only [Act.put,pz])
 refine aN ?_;intro wn Z;replace Z:=Z.out;obtain ⟨lP,mL⟩:=ay Z;have kA:w.heap.size < wn.heap.size:=sq Z.size;have se:b' < wn.heap.size:=sq Z.size;try (have sJ:wr.heap.size < wn.heap.size:=sq Z.size)
 have K8:Below wr.heap.size wr wn:=bJ;have BQ:wn.cell? ⟨wr.heap.size,8,none⟩ = some (.int .i64 x.V[j+1].seq):=by rw [lP _ _ S',cell_of_row _ _ _ _ _ _ (heap_alloc_new wr _)];rfl
 have UV:(j+1:Nat) < 12:=by omega
 obtain ⟨wo,hwo⟩:∃wo,wo = wr:=⟨_,rfl⟩;subst hwo;go_wp2_with fail
 go_loopw [5] (fun i2 wi=>∃q:Nat,q≤j+1∧i2 = .int .i64 q∧Hid (∀u∈x.V.take q,(u.seq == x.V[j+1].seq) = false)∧Below wn.heap.size wn wi) (fun i2 _=>j+1 - (intOf i2).toNat)
 case atStart=>exact ⟨0,Nat.zero_le _,rfl,by show ∀_,_;simp,aj _⟩
 case round =>
  obtain ⟨q,hq,rfl,HQ,hbi⟩:=hrel;have Fp:Below wo.heap.size wo wr:=ah K8 hbi;have K9:Below w.heap.size w wr:=ah b9 Fp;have UX:=(ay Fp).1 _ 0 tX |>.trans c0;have UY:=(ay Fp).1 _ 1 tX |>.trans c1;have UZ:=(ay Fp).1 _ 2 tX |>.trans c2;have U9:=(ay Fp).1 _ 3 tX |>.trans c3;have Va:=(ay Fp).1 _ 4 tX |>.trans c4;have Vc:=(ay Fp).1 _ 5 tX |>.trans c5;replace BQ:=r' hbi BQ J;have vI:w.heap.size < wr.heap.size:=by have:=Fp.size;omega
  have Ve:wo.heap.size < wr.heap.size:=by have:=hbi.size;omega
  by_cases hqk:q < j+1
  ·obtain ⟨b6,o6,ck6,Fk6,e,hbF6,LU,vK,aqC,ID⟩:=Sl.get (α:=ag) (c:=bW) dM (show q < x.V.length by omega);have PF:=vK;obtain ⟨Ho,Hq,Xm,JK,JL,aan,AL,AO,Oz,anO,anP,acM,Xn,afj,afk,acN,aao,OA,hon6,aqD⟩:=kE PF;subst anO;obtain ⟨rfl,rfl⟩:b6 = b'∧o6 = o':=by simpa using e.symm
   clear e;obtain ⟨m0,m1,m2,m3,m4,m5,m6,m7,m8⟩:=vL 9 ID;clear ID PF anP;replace m8:=r' K9 m8 LU;have hyi:b6 < wr.heap.size:=(by have:=K9.size;omega);have hqi:(q:Int) < ((j+1:Nat):Int):=J;have oE:q < x.V.length:=J;cases hse:(x.V[q].seq == x.V[j+1].seq) with
   | true =>
     have sK:ed (x.V.take (j+1)) x.V[j+1].seq = true:=by unfold ed;rw [List.any_eq_true];exact ⟨x.V[q],by rw [List.mem_take_iff_getElem];exact ⟨q,J,rfl⟩,hse⟩
     have HF:=I (DR ax Vf);go_wp2_with fail
     refine aF _ U' U' (aj _) ?_
     repeat ((first | refine aG O ?_ | refine aH _ O vM ?_);simp only [Act.put,pz])
     refine aN ?_;intro wz hz;replace hz:=hz.out;exact sL
   | false =>
     have Vg:=I (yQ (p:=fun u:ag=>u.seq == x.V[j+1].seq) oE HQ.out hse);go_wp2_with fail
     refine aF _ U' U' (aj _) ?_
     repeat ((first | refine aG O ?_ | refine aH _ O vM ?_);simp only [Act.put,pz])
     refine aN ?_;intro wz hz;replace hz:=hz.out;go_wp2;exact ⟨⟨q+1,J,N',Vg.out,bJ⟩,by simp [intOf];omega⟩
  ·obtain rfl:q = j+1:=by omega
   have sK:ed (x.V.take (j+1)) x.V[j+1].seq = false:=by exact BR
   have Gn:=I (gq hfresh.out (show DN x.V (j+1) = true by rw [sG ax,sK];rfl));clear sK;go_wp2
   exact ⟨⟨j+1+1,J,N',HN.out,Gn.out,ah aR Fp⟩,by simp [intOf];omega⟩):P:=h
theorem BS {P:Prop} (h:P:=by
 have Ac:=I gb;have vN:=I iY;have H1:=I he1;have H2:=I he2;clear gb iY he1 he2;go_enter Tryz.func100,Tryz.ntmps100;go_wp2_with fail
 refine (gQ x _ _ nm _ (aJ h bJ) cA).mono ?_;rw [HI.out];rintro e w2 ⟨rfl,ar⟩;obtain ⟨cq,cL⟩:=ay ar;have cw:w.heap.size < w2.heap.size:=(sq ar.size);have ke:w.heap.size+1 < w2.heap.size:=(sq ar.size);have eM:Below w.heap.size w w2:=bJ;go_wp2_with fail
 refine (jm x _ _ nm _ (aJ h bJ) vk).mono ?_;rw [HU.out];rintro e w3 ⟨rfl,bb⟩;obtain ⟨dm,hf3⟩:=ay bb;have cU:w.heap.size < w3.heap.size:=(sq bb.size);have ui:w.heap.size+1 < w3.heap.size:=(sq bb.size);have dX:Below w.heap.size w w3:=ah eM bb;replace q0:=r' dX q0 hbs;replace q1:=r' dX q1 hbs;replace q2:=r' dX q2 hbs;replace q3:=r' dX q3 hbs;replace q4:=r' dX q4 hbs;replace q5:=r' dX q5 hbs;have jd:bh < w3.heap.size:=by have:=dX.size;omega
 go_wp2_with fail
 refine (oQ a p.az _ ha kQ).mono ?_;rw [H1.out];rintro e w4 ⟨rfl,bx⟩;obtain ⟨fi,hf4⟩:=ay bx;have Wy:w.heap.size < w4.heap.size:=(sq bx.size);have IF:w.heap.size+1 < w4.heap.size:=(sq bx.size);go_wp2_with fail
 refine (oQ b p.mem _ X lg).mono ?_;rw [H2.out];rintro e w5 ⟨rfl,bv⟩;obtain ⟨sM,pF⟩:=ay bv;have Es:w.heap.size < w5.heap.size:=(sq bv.size);have IV:w.heap.size+1 < w5.heap.size:=(sq bv.size);have Dc:Below w3.heap.size w3 w5:=ah bx bv;replace q0:=r' Dc q0 jd;replace q1:=r' Dc q1 jd;replace q2:=r' Dc q2 jd;replace q3:=r' Dc q3 jd;replace q4:=r' Dc q4 jd;replace q5:=r' Dc q5 jd;have afO:bh < w5.heap.size:=by have:=Dc.size;omega
 go_wp2_with fail
 refine aF w5 U' U' (aj _) ?_
 repeat (first
  | (apply aG
     case hw=>rfl
     simp only [Act.put,pz])
  | (apply aH
     case hw=>rfl
     case h =>
      intro wq hq;have ee:=(aB hq).1;have lJ:=(aB hq).2;go_simp
      first
       | exact ⟨hq,rfl⟩
       | exact ⟨aQ hq _,rfl⟩
       | ((refine (IB _ _ _ sf sf).mono ?_;(first | rw [Ac.out] | rw [vN.out]);rintro e wz ⟨rfl,nV⟩;exact ⟨rfl,aI hq nV⟩))
       | (simp only [↓IntWalk.iteOmega];exact ⟨hq,rfl⟩)
     simp only [Act.put,pz]))
 refine aN ?_;intro wn Z;replace Z:=Z.out;go_wp2;go_ret
 exact ⟨by rw [HF.out];first | rfl | (simp;exact uk.out),ah dX (ah Dc Z)⟩):P:=h
theorem dz {P:Prop} (h:P:=by
 exact vM):P:=h
theorem BU {P:Prop} (h:P:=by
 intro HK;have aK:Below wn.heap.size wn wn.drew:=aA (aj _);refine aX 1 _ O U' H' aK W' ?_;try simp only [Act.put,pz]
 refine aX 2 _ O U' H' aK W' ?_;try simp only [Act.put,pz]
 refine aX 3 _ O U' H' aK W' ?_;try simp only [Act.put,pz]
 refine aX 4 _ O U' H' aK W' ?_;try simp only [Act.put,pz]
 refine aX 6 _ O U' H' aK W' ?_;try simp only [Act.put,pz]
 refine D7 0 7 O O U' O O (fun K hK=>?_) (fun K hK=>?_)
 ·go_simp;refine hK _ _ (ak aK (.cells #[] 47)) ?_;try simp only [Act.put,pz]
  clear hK K;have Qz:=ak aK (.cells #[] 47);have KI:=D9 wn.drew 47 6 wn.heap.size rfl;refine D7 5 7 O O U' O O (fun K hK=>?_) (fun K hK=>?_)
  ·refine qQ mN _ _ O (wn.drew.alloc (.cells #[] 47)) wn.heap.size _ 0 [] KI O ⟨g,0,none⟩ k bV ((ds.take (k * 6))) O Ab (fun q u hu=>(Qz.cell (p:=(⟨g,0,none⟩:Addr).add q) iB).trans (eo.out q u hu)) (fun u hu=>iX.out u (List.mem_of_mem_take hu)) J J fg ?_;intro v5 w5 aL b8 fh;have bv:Below wn.heap.size wn w5:=Below.grown (Qz) b8 fg (fun q hq=>(KI.lt q hq).1);refine hK _ _ bv ?_;try simp only [Act.put,pz]
   clear hK K;refine bP 7 O U' O (fun K hK=>?_);go_simp;refine hK _ _ (ak bv (.cells #[.string n.name,.slice bY n.labels.length bZ,.int .i64 n.az,.int .i64 n.mem,.int .i64 n.av,.slice wP n.aT.length wQ] 47)) ?_;try simp only [Act.put,pz]
   clear hK K;have cC:=ak bv (.cells #[.string n.name,.slice bY n.labels.length bZ,.int .i64 n.az,.int .i64 n.mem,.int .i64 n.av,.slice wP n.aT.length wQ] 47);refine bP 8 O U' O (fun K hK=>?_);refine qQ mN _ _ O (w5.alloc (.cells #[.string n.name,.slice bY n.labels.length bZ,.int .i64 n.az,.int .i64 n.mem,.int .i64 n.av,.slice wP n.aT.length wQ] 47)) wn.heap.size v5 _ _ (mG aL (ak (aj _) _)) O ⟨w5.heap.size,0,none⟩ 1 1 [.string n.name,.slice bY n.labels.length bZ,.int .i64 n.az,.int .i64 n.mem,.int .i64 n.av,.slice wP n.aT.length wQ] O O (DI w5 47 [.string n.name,.slice bY n.labels.length bZ,.int .i64 n.az,.int .i64 n.mem,.int .i64 n.av,.slice wP n.aT.length wQ] w5.heap.size rfl) jI.out J J fo ?_;intro v7 w7 nK Ua lp;rw [show 0+k = k by omega,List.nil_append] at nK;obtain ⟨g9,p9,hv7,fI,kz,jH⟩:=wW nK J;subst hv7;have bC:Below wn.heap.size wn w7:=Below.grown (cC) Ua fo (fun q hq=>(aL.lt q hq).1);exact vQ
  ·go_simp;refine hK _ _ (ak Qz (.cells #[.string n.name,.slice bY n.labels.length bZ,.int .i64 n.az,.int .i64 n.mem,.int .i64 n.av,.slice wP n.aT.length wQ] 47)) ?_;try simp only [Act.put,pz]
   clear hK K;have cC:=ak Qz (.cells #[.string n.name,.slice bY n.labels.length bZ,.int .i64 n.az,.int .i64 n.mem,.int .i64 n.av,.slice wP n.aT.length wQ] 47);replace KI:=mG KI (ak (aj _) (.cells #[.string n.name,.slice bY n.labels.length bZ,.int .i64 n.az,.int .i64 n.mem,.int .i64 n.av,.slice wP n.aT.length wQ] 47));refine bP 5 O U' O (fun K hK=>?_);refine qQ mN _ _ O ((wn.drew.alloc (.cells #[] 47)).alloc (.cells #[.string n.name,.slice bY n.labels.length bZ,.int .i64 n.az,.int .i64 n.mem,.int .i64 n.av,.slice wP n.aT.length wQ] 47)) wn.heap.size _ 0 [] KI O ⟨g,0,none⟩ k bV ((ds.take (k * 6))) O Ab (fun q u hu=>(cC.cell (p:=(⟨g,0,none⟩:Addr).add q) iB).trans (eo.out q u hu)) (fun u hu=>iX.out u (List.mem_of_mem_take hu)) J J fo ?_;intro v5 w5 aL b8 fh;have bv:Below wn.heap.size wn w5:=Below.grown (cC) b8 fo (fun q hq=>(KI.lt q hq).1);refine hK _ _ bv ?_;try simp only [Act.put,pz]
   clear hK K;refine bP 8 O U' O (fun K hK=>?_);refine qQ mN _ _ O w5 wn.heap.size v5 _ _ aL O ⟨wn.heap.size+1,0,none⟩ 1 1 [.string n.name,.slice bY n.labels.length bZ,.int .i64 n.az,.int .i64 n.mem,.int .i64 n.av,.slice wP n.aT.length wQ] O O (fun q u hu=>(World.cell?_of_block sc).trans ((DI (wn.drew.alloc (.cells #[] 47)) 47 [.string n.name,.slice bY n.labels.length bZ,.int .i64 n.az,.int .i64 n.mem,.int .i64 n.av,.slice wP n.aT.length wQ] (wn.heap.size+1) S') q u hu)) jI.out J J hJ ?_;exact BV
 ·go_simp;refine hK _ _ (ak aK (.cells #[.string n.name,.slice bY n.labels.length bZ,.int .i64 n.az,.int .i64 n.mem,.int .i64 n.av,.slice wP n.aT.length wQ] 47)) ?_;try simp only [Act.put,pz]
  clear hK K;have cC:=ak aK (.cells #[.string n.name,.slice bY n.labels.length bZ,.int .i64 n.az,.int .i64 n.mem,.int .i64 n.av,.slice wP n.aT.length wQ] 47);refine bP 0 O U' O (fun K hK=>?_);go_simp;refine hK _ _ (ak cC (.cells #[] 47)) ?_;try simp only [Act.put,pz]
  clear hK K;have Qz:=ak cC (.cells #[] 47);have KI:=vP (D9 (wn.drew.alloc (.cells #[.string n.name,.slice bY n.labels.length bZ,.int .i64 n.az,.int .i64 n.mem,.int .i64 n.av,.slice wP n.aT.length wQ] 47)) 47 6 (wn.heap.size+1) S') (B':=wn.heap.size) J;refine bP 5 O U' O (fun K hK=>?_);refine qQ mN _ _ O ((wn.drew.alloc (.cells #[.string n.name,.slice bY n.labels.length bZ,.int .i64 n.az,.int .i64 n.mem,.int .i64 n.av,.slice wP n.aT.length wQ] 47)).alloc (.cells #[] 47)) wn.heap.size _ 0 [] KI O ⟨g,0,none⟩ k bV ((ds.take (k * 6))) O Ab (fun q u hu=>(Qz.cell (p:=(⟨g,0,none⟩:Addr).add q) iB).trans (eo.out q u hu)) (fun u hu=>iX.out u (List.mem_of_mem_take hu)) J J fg ?_;intro v5 w5 aL b8 fh;have bv:Below wn.heap.size wn w5:=Below.grown (Qz) b8 fg (fun q hq=>(KI.lt q hq).1);refine hK _ _ bv ?_;try simp only [Act.put,pz]
  clear hK K;refine bP 8 O U' O (fun K hK=>?_);refine qQ mN _ _ O w5 wn.heap.size v5 _ _ aL O ⟨wn.heap.size,0,none⟩ 1 1 [.string n.name,.slice bY n.labels.length bZ,.int .i64 n.az,.int .i64 n.mem,.int .i64 n.av,.slice wP n.aT.length wQ] O O (fun q u hu=>(World.cell?_of_block sd).trans ((DI wn.drew 47 [.string n.name,.slice bY n.labels.length bZ,.int .i64 n.az,.int .i64 n.mem,.int .i64 n.av,.slice wP n.aT.length wQ] wn.heap.size rfl) q u hu)) jI.out J J hJ ?_
  exact BV):P:=h
theorem BW {P:Prop} (h:P:=by
 intro HK;have aK:Below wn.heap.size wn wn.drew:=aA (aj _);refine aX 1 _ O U' H' aK W' ?_;try simp only [Act.put,pz]
 refine aX 2 _ O U' H' aK W' ?_;try simp only [Act.put,pz]
 refine aX 3 _ O U' H' aK W' ?_;try simp only [Act.put,pz]
 refine aX 5 _ O U' H' aK W' ?_;try simp only [Act.put,pz]
 refine D7 0 6 O O U' O O (fun K hK=>?_) (fun K hK=>?_)
 ·go_simp;refine hK _ _ (ak aK (.cells #[] 70)) ?_;try simp only [Act.put,pz]
  clear hK K;have Qz:=ak aK (.cells #[] 70);have KI:=D9 wn.drew 70 3 wn.heap.size rfl;refine D7 4 6 O O U' O O (fun K hK=>?_) (fun K hK=>?_)
  ·refine qQ oF _ _ O (wn.drew.alloc (.cells #[] 70)) wn.heap.size _ 0 [] KI O ⟨g,0,none⟩ jj aq ((ds.take (jj * 3))) O K' (fun q u hu=>(Qz.cell (p:=(⟨g,0,none⟩:Addr).add q) iB).trans (eo.out q u hu)) (fun u hu=>iX.out u (List.mem_of_mem_take hu)) J J fg ?_;intro v5 w5 aL b8 fh;have bv:Below wn.heap.size wn w5:=Below.grown (Qz) b8 fg (fun q hq=>(KI.lt q hq).1);refine hK _ _ bv ?_;try simp only [Act.put,pz]
   clear hK K;refine bP 6 O U' O (fun K hK=>?_);go_simp;refine hK _ _ (ak bv (.cells #[.string y.key,.int .i64 y.op,.slice Ay y.values.length cy] 70)) ?_;try simp only [Act.put,pz]
   clear hK K;have cC:=ak bv (.cells #[.string y.key,.int .i64 y.op,.slice Ay y.values.length cy] 70);refine bP 7 O U' O (fun K hK=>?_);refine qQ oF _ _ O (w5.alloc (.cells #[.string y.key,.int .i64 y.op,.slice Ay y.values.length cy] 70)) wn.heap.size v5 _ _ (mG aL (ak (aj _) _)) O ⟨w5.heap.size,0,none⟩ 1 1 [.string y.key,.int .i64 y.op,.slice Ay y.values.length cy] O O (DI w5 70 [.string y.key,.int .i64 y.op,.slice Ay y.values.length cy] w5.heap.size rfl) jI.out J J fo ?_;intro v7 w7 nK Ua lp;rw [show 0+jj = jj by omega,List.nil_append] at nK;obtain ⟨g9,p9,hv7,fI,kz,jH⟩:=wW nK J;subst hv7;have bC:Below wn.heap.size wn w7:=Below.grown (cC) Ua fo (fun q hq=>(aL.lt q hq).1);exact BY
  ·go_simp;refine hK _ _ (ak Qz (.cells #[.string y.key,.int .i64 y.op,.slice Ay y.values.length cy] 70)) ?_;try simp only [Act.put,pz]
   clear hK K;have cC:=ak Qz (.cells #[.string y.key,.int .i64 y.op,.slice Ay y.values.length cy] 70);replace KI:=mG KI (ak (aj _) (.cells #[.string y.key,.int .i64 y.op,.slice Ay y.values.length cy] 70));refine bP 4 O U' O (fun K hK=>?_);refine qQ oF _ _ O ((wn.drew.alloc (.cells #[] 70)).alloc (.cells #[.string y.key,.int .i64 y.op,.slice Ay y.values.length cy] 70)) wn.heap.size _ 0 [] KI O ⟨g,0,none⟩ jj aq ((ds.take (jj * 3))) O K' (fun q u hu=>(cC.cell (p:=(⟨g,0,none⟩:Addr).add q) iB).trans (eo.out q u hu)) (fun u hu=>iX.out u (List.mem_of_mem_take hu)) J J fo ?_;intro v5 w5 aL b8 fh;have bv:Below wn.heap.size wn w5:=Below.grown (cC) b8 fo (fun q hq=>(KI.lt q hq).1);refine hK _ _ bv ?_;try simp only [Act.put,pz]
   clear hK K;refine bP 7 O U' O (fun K hK=>?_);refine qQ oF _ _ O w5 wn.heap.size v5 _ _ aL O ⟨wn.heap.size+1,0,none⟩ 1 1 [.string y.key,.int .i64 y.op,.slice Ay y.values.length cy] O O (fun q u hu=>(World.cell?_of_block sc).trans ((DI (wn.drew.alloc (.cells #[] 70)) 70 [.string y.key,.int .i64 y.op,.slice Ay y.values.length cy] (wn.heap.size+1) S') q u hu)) jI.out J J hJ ?_;exact B6
 ·go_simp;refine hK _ _ (ak aK (.cells #[.string y.key,.int .i64 y.op,.slice Ay y.values.length cy] 70)) ?_;try simp only [Act.put,pz]
  clear hK K;have cC:=ak aK (.cells #[.string y.key,.int .i64 y.op,.slice Ay y.values.length cy] 70);refine bP 0 O U' O (fun K hK=>?_);go_simp;refine hK _ _ (ak cC (.cells #[] 70)) ?_;try simp only [Act.put,pz]
  clear hK K;have Qz:=ak cC (.cells #[] 70);have KI:=vP (D9 (wn.drew.alloc (.cells #[.string y.key,.int .i64 y.op,.slice Ay y.values.length cy] 70)) 70 3 (wn.heap.size+1) S') (B':=wn.heap.size) J;refine bP 4 O U' O (fun K hK=>?_);refine qQ oF _ _ O ((wn.drew.alloc (.cells #[.string y.key,.int .i64 y.op,.slice Ay y.values.length cy] 70)).alloc (.cells #[] 70)) wn.heap.size _ 0 [] KI O ⟨g,0,none⟩ jj aq ((ds.take (jj * 3))) O K' (fun q u hu=>(Qz.cell (p:=(⟨g,0,none⟩:Addr).add q) iB).trans (eo.out q u hu)) (fun u hu=>iX.out u (List.mem_of_mem_take hu)) J J fg ?_;intro v5 w5 aL b8 fh;have bv:Below wn.heap.size wn w5:=Below.grown (Qz) b8 fg (fun q hq=>(KI.lt q hq).1);refine hK _ _ bv ?_;try simp only [Act.put,pz]
  clear hK K;refine bP 7 O U' O (fun K hK=>?_);refine qQ oF _ _ O w5 wn.heap.size v5 _ _ aL O ⟨wn.heap.size,0,none⟩ 1 1 [.string y.key,.int .i64 y.op,.slice Ay y.values.length cy] O O (fun q u hu=>(World.cell?_of_block sd).trans ((DI wn.drew 70 [.string y.key,.int .i64 y.op,.slice Ay y.values.length cy] wn.heap.size rfl) q u hu)) jI.out J J hJ ?_
  exact B6):P:=h
theorem sP {P:Prop} (h:P:=by
 try simp only [Bool.and_false,Bool.and_true,Bool.false_and,Bool.and_self] at hp
 have HF:=I (dW ax hp);clear hp;go_wp2_with fail
 refine aF _ U' U' (aj _) ?_
 repeat ((first | refine aG O ?_ | refine aH _ O B7 ?_);simp only [Act.put,pz])
 refine aN ?_;intro wn Z;replace Z:=Z.out;obtain ⟨lP,mL⟩:=ay Z;have kA:w.heap.size < wn.heap.size:=sq Z.size;have se:b' < wn.heap.size:=sq Z.size;try (have sJ:wr.heap.size < wn.heap.size:=sq Z.size)
 go_wp2_with (go_at_call 52;refine (jm x _ _ x.aa[j+1].name _ (aJ h bJ) Ji.out).mono ?_;rw [HU.out];rintro e w5 ⟨rfl,bv⟩;obtain ⟨sM,pF⟩:=ay bv;have Es:w.heap.size < w5.heap.size:=(sq bv.size);have IV:b' < w5.heap.size:=(sq bv.size);(try have Ad:wr.heap.size < w5.heap.size:=(sq bv.size)))
 go_ret
 exact ⟨by rw [HF.out];rfl,bJ⟩):P:=h
theorem sQ {P:Prop} (h:P:=by
 have HF:=I (dW ax hp);clear hp;go_wp2_with fail
 refine aF _ U' U' (aj _) ?_
 repeat ((first | refine aG O ?_ | refine aH _ O B9 ?_);simp only [Act.put,pz])
 refine aN ?_;intro wn Z;replace Z:=Z.out;obtain ⟨lP,mL⟩:=ay Z;have kA:w.heap.size < wn.heap.size:=sq Z.size;have se:b < wn.heap.size:=sq Z.size;try (have sJ:wr.heap.size < wn.heap.size:=sq Z.size)
 go_wp2_with (go_at_call 52;refine (jm x _ _ x.aa[0].name _ (aJ h bJ) Ji.out).mono ?_;rw [HU.out];rintro e w5 ⟨rfl,bv⟩;obtain ⟨sM,pF⟩:=ay bv;have Es:w.heap.size < w5.heap.size:=(sq bv.size);have IV:b < w5.heap.size:=(sq bv.size);(try have Ad:wr.heap.size < w5.heap.size:=(sq bv.size)))
 go_ret
 exact ⟨by rw [HF.out];rfl,bJ⟩):P:=h
theorem vR {P:Prop} (h:P:=by
 rintro e w1 ⟨ds,G,rfl,hO,bo⟩;have hR:=hO.rd;obtain ⟨kM,kN,ND,ny,nC,TD,aE,hGr,NG,TF,TG,xI,uD,xJ⟩:=aO hR;subst aE;clear hGr hR;have cE:=bo.size;simp at cE;have XB:oG w1 (w.heap.size+1+1) [.slice none 0 0,.slice none 0 0,.int .i64 0,.int .i64 0,.int .i64 0,.int .i64 0]:=oG.ext (oG.ul w _ _ [.slice none 0 0,.slice none 0 0,.int .i64 0,.int .i64 0,.int .i64 0,.int .i64 0] 29) bo;have HO:=I (hO.mono (B':=w.heap.size+1+1+1) S');have ar:Below w.heap.size w w1:=ah b5 bo;clear hO bo h;try dsimp only
 iterate 8 go_step
 refine kB 29 _ _ rfl (w.heap.size+1+1) 0 [.slice kM R.aa.length kN,.slice ny R.V.length nC,.int .i64 R.next,.int .i64 R.weights.pack,.int .i64 R.weights.af,.int .i64 R.weights.an] [.slice none 0 0,.slice none 0 0,.int .i64 0,.int .i64 0,.int .i64 0,.int .i64 0] rfl rfl XB S' U' ex ?_;intro w2 YB OB;replace YB:oG w2 (w.heap.size+1+1) [.slice kM R.aa.length kN,.slice ny R.V.length nC,.int .i64 R.next,.int .i64 R.weights.pack,.int .i64 R.weights.af,.int .i64 R.weights.an]:=YB;try dsimp only [Act.put]
 go_wp2;refine bodyPost_ret (v:=.tuple #[.agg #[.slice kM R.aa.length kN,.slice ny R.V.length nC,.int .i64 R.next,.int .i64 R.weights.pack,.int .i64 R.weights.af,.int .i64 R.weights.an],.int .i64 cd]) (vW Tryz.results66 _ (w.heap.size+1+1) [.slice kM R.aa.length kN,.slice ny R.V.length nC,.int .i64 R.next,.int .i64 R.weights.pack,.int .i64 R.weights.af,.int .i64 R.weights.an] _ _ rfl rfl YB Tryz.underlying29 rfl U') rfl ?_
 exact Ca):P:=h
theorem vX {P:Prop} (h:P:=by
 go_wp2_with fail
 refine (gQ x _ _ nm _ (aJ h bJ) cA).mono ?_;rw [HI.out];rintro e w2 ⟨rfl,ar⟩;obtain ⟨cq,cL⟩:=ay ar;have cw:w.heap.size < w2.heap.size:=(sq ar.size);have ke:w.heap.size+1 < w2.heap.size:=(sq ar.size);have eM:Below w.heap.size w w2:=bJ;go_wp2_with fail
 refine (jm x _ _ nm _ (aJ h bJ) vk).mono ?_
 exact Cd):P:=h
theorem vZ {P:Prop} (h:P:=by
 go_wp2_with fail
 skip
 refine aF _ U' U' (aj _) ?_
 repeat ((first | refine aG O ?_ | refine aH _ O BP ?_);simp only [Act.put,pz])
 refine aN ?_;intro wn Z;replace Z:=Z.out;obtain ⟨lP,mL⟩:=ay Z;have kA:w.heap.size < wn.heap.size:=sq Z.size;have se:b' < wn.heap.size:=sq Z.size;try (have sJ:wr.heap.size < wn.heap.size:=sq Z.size)
 exact sL):P:=h
theorem we {P:Prop} (h:P:=by
 have HS:=I hS;clear hS;have H1:=I he1;clear he1;have H2:=I he2;clear he2;go_wp2_with fail
 refine (IG.out _ bJ).mono ?_;rw [HS.out];rintro e w4 ⟨rfl,bx⟩;obtain ⟨fi,hf4⟩:=ay bx;have Wy:w.heap.size < w4.heap.size:=(sq bx.size);have IF:w.heap.size+1 < w4.heap.size:=(sq bx.size);have Lb:w3.heap.size < w4.heap.size:=(sq bx.size);go_wp2_with fail
 refine (IH.out _ bJ).mono ?_;rintro e w5 ⟨rfl,bv⟩;obtain ⟨sM,pF⟩:=ay bv;have Es:w.heap.size < w5.heap.size:=(sq bv.size);have IV:w.heap.size+1 < w5.heap.size:=(sq bv.size);have Ad:w3.heap.size < w5.heap.size:=(sq bv.size);go_wp2_with fail
 refine (oQ a p.az _ ha kQ).mono ?_;rw [H1.out];rintro e w6 ⟨rfl,cS⟩;obtain ⟨ID,Xe⟩:=ay cS;have nF:w.heap.size < w6.heap.size:=(sq cS.size);have Vh:w.heap.size+1 < w6.heap.size:=(sq cS.size);have Vi:w3.heap.size < w6.heap.size:=(sq cS.size);go_wp2_with fail
 refine (oQ b p.mem _ X lg).mono ?_;rw [H2.out];rintro e w7 ⟨rfl,bC⟩;obtain ⟨hc7,hf7⟩:=ay bC;have mv:w.heap.size < w7.heap.size:=(sq bC.size);have hy7:w.heap.size+1 < w7.heap.size:=(sq bC.size);have hx7:w3.heap.size < w7.heap.size:=(sq bC.size)
 exact wg):P:=h
theorem Cf {P:Prop} (h:P:=by
 have HN:=I (gq hall.out hp);clear hp;go_wp2_with fail
 skip
 refine aF _ U' U' (aj _) ?_
 repeat ((first | refine aG O ?_ | refine aH _ O Cg ?_);simp only [Act.put,pz])
 refine aN ?_;intro wn Z;replace Z:=Z.out;obtain ⟨lP,mL⟩:=ay Z;have kA:w.heap.size < wn.heap.size:=sq Z.size;have se:b < wn.heap.size:=sq Z.size;try (have sJ:wr.heap.size < wn.heap.size:=sq Z.size)
 have K8:Below wr.heap.size wr wn:=bJ;have BQ:wn.cell? ⟨wr.heap.size,8,none⟩ = some (.int .i64 x.V[0].seq):=by rw [lP _ _ S',cell_of_row _ _ _ _ _ _ (heap_alloc_new wr _)];rfl
 have UV:(0:Nat) < 12:=by omega
 obtain ⟨wo,hwo⟩:∃wo,wo = wr:=⟨_,rfl⟩;subst hwo;go_wp2_with fail
 go_loopw [5] (fun i2 wi=>∃q:Nat,q≤0∧i2 = .int .i64 q∧Hid (∀u∈x.V.take q,(u.seq == x.V[0].seq) = false)∧Below wn.heap.size wn wi) (fun i2 _=>0 - (intOf i2).toNat)
 case atStart=>exact ⟨0,Nat.zero_le _,rfl,by show ∀_,_;simp,aj _⟩
 case round =>
  obtain ⟨q,hq,rfl,HQ,hbi⟩:=hrel;have Fp:Below wo.heap.size wo wr:=ah K8 hbi;have K9:Below w.heap.size w wr:=ah b9 Fp;have UX:=(ay Fp).1 _ 0 tX |>.trans c0;have UY:=(ay Fp).1 _ 1 tX |>.trans c1;have UZ:=(ay Fp).1 _ 2 tX |>.trans c2;have U9:=(ay Fp).1 _ 3 tX |>.trans c3;have Va:=(ay Fp).1 _ 4 tX |>.trans c4;have Vc:=(ay Fp).1 _ 5 tX |>.trans c5;replace BQ:=r' hbi BQ J;have vI:w.heap.size < wr.heap.size:=by have:=Fp.size;omega
  have Ve:wo.heap.size < wr.heap.size:=by have:=hbi.size;omega
  by_cases hqk:q < 0
  ·exact absurd hqk J
  ·obtain rfl:q = 0:=by omega
   have sK:ed (x.V.take (0)) x.V[0].seq = false:=by exact BR
   have Gn:=I (gq hfresh.out (show DN x.V (0) = true by rw [sG ax,sK];rfl));clear sK;go_wp2
   exact ⟨⟨0+1,J,N',HN.out,Gn.out,ah aR Fp⟩,by simp [intOf];omega⟩):P:=h
theorem Lc {P:Prop} (h:P:=by
 exact Cd):P:=h
theorem wj {P:Prop} (h:P:=by
 have h1:jo w6 ls.tail Ae []:=by have e:=ws (fun h=>(vO h).2.1) sR;subst e;exact sR.frame (fun b X=>by cases X) (by have:=gM.size;have:=eT.size;simp only [World.size_alloc] at *;omega)
 have h2:jo w6 [ls[0]] Af []:=by have e:=ws (fun h=>(vO h).2.1) lQ;subst e;exact lQ.frame (fun b X=>by cases X) eT.size
 have h3:=h1.append h2;obtain ⟨A4,c4,F4,hv6,hS6,hF6⟩:=Sl.mO (xs:=ls.tail++[ls[0]]) (e:=67) (v:=v6) (B:=w3.heap.size) (by have:=R6;simp only [Nat.zero_add,List.nil_append] at this;rw [List.length_append];exact this) h3;have cS:∀y∈F4,w3.heap.size≤y:=fun y hy=>by
  rcases hF6 y hy with h | h
  ·cases h
  ·exact (R6.lt y h).1
 have vK:rd w6 (ls.tail++[ls[0]]) [.slice A4 (ls.tail++[ls[0]]).length c4] F4:=hS6;rw [sg] at hv6 vK;subst hv6;have Y6:=jK.out.ext ij;have k6:=Y6.cell (i:=1) (u:=.slice (some ⟨bl,ol,none⟩) ls.length cl) rfl;have f6:=Y6.fz 1;refine hK _ _ ij ?_;try simp only [Act.put,pz]
 clear hK K;refine cc 11 O U' O (fun K hK=>?_);go_simp;refine hK _ _ ij ?_;try simp only [Act.put,pz]
 clear hK K;refine kg U' ?_;refine bP 12 O U' O (fun K hK=>?_);go_simp;refine hK _ _ trivial ?_;try simp only [Act.put,pz]
 clear hK K;refine nR U' ?_
 exact HK _ _ ⟨A4,c4,F4,_,_,_,_,_,_,_,_,_,_,_,_,uo,(nN.lq _ ij).setCell (p:=⟨w2.heap.size,1,none⟩) (List.mem_singleton.2 rfl) _,Y6.put 1 _,⟨bc.frame vK (fun b X=>Below.heap_setCell _ _ _ _ (by have:=cS b X;dsimp only;omega)) eC,fun b _=>Nat.zero_le b⟩,fun b X=>by have:=cS b X;omega⟩):P:=h
theorem wu {P:Prop} (h:P:=by
 go_wp2_with fail
 skip
 refine aF _ U' U' (aj _) ?_
 repeat ((first | refine aG O ?_ | refine aH _ O Cg ?_);simp only [Act.put,pz])
 refine aN ?_;intro wn Z;replace Z:=Z.out;obtain ⟨lP,mL⟩:=ay Z;have kA:w.heap.size < wn.heap.size:=sq Z.size;have se:b < wn.heap.size:=sq Z.size;try (have sJ:wr.heap.size < wn.heap.size:=sq Z.size)
 exact sL):P:=h
theorem Ch {P:Prop} (h:P:=by
 exact B7):P:=h
theorem Ci {P:Prop} (h:P:=by
 have HC:=I hc;have HN:=I Z;clear hc Z;go_wp2_with fail
 refine (sS x _ _ _ (aZ h b5) HW.out).mono ?_;rintro e w1 ⟨lr,G1,rfl,jX,bo,hRM⟩;obtain ⟨d7,gc⟩:=ay bo;have wv:w.heap.size < w1.heap.size:=sq bo.size;have wy:w.heap.size+1 < w1.heap.size:=sq bo.size;have wH:w.heap.size+1+1 < w1.heap.size:=sq bo.size;have cH:=jX.rd;obtain ⟨dG,bV,xq,dS,dJ,Bz,aE,hG1,oO,tq,wI,iV,gI,iW⟩:=aO cH;subst aE;clear hG1 cH;go_wp2_with fail
 refine (II u _ _ _ (aZ h' b5) HU.out).mono ?_;rw [HN.out];rintro e w2 ⟨wJ,G2,rfl,bI,ar⟩;obtain ⟨cq,cL⟩:=ay ar;have wK:w.heap.size < w2.heap.size:=sq ar.size;have wN:w.heap.size+1 < w2.heap.size:=sq ar.size;have wS:w.heap.size+1+1 < w2.heap.size:=sq ar.size;have wT:w1.heap.size < w2.heap.size:=sq ar.size;have iZ:=bI.rd;obtain ⟨bY,bZ,iq,eU,eX,jV,bg,bn,dK,aE,hG2,jW,dA,kQ,lg,lG,iO,bK⟩:=dL iZ;subst aE;clear hG2 iZ;go_wp2_with fail
 refine (qM x _ _ _ (aZ h b5) HW.out).mono ?_;rw [HC.out];rintro e w3 ⟨rfl,bb⟩;obtain ⟨dm,hf3⟩:=ay bb;have wV:w.heap.size < w3.heap.size:=sq bb.size;have wX:w.heap.size+1 < w3.heap.size:=sq bb.size;have wY:w.heap.size+1+1 < w3.heap.size:=sq bb.size;have wZ:w1.heap.size < w3.heap.size:=sq bb.size;have xa:w2.heap.size < w3.heap.size:=sq bb.size;have HI:=I eV;clear eV;go_wp2_with fail
 refine (Ag x _ _ n.name _ (aZ h b5) Ji.out).mono ?_;rw [HI.out];rintro e w4 ⟨rfl,bx⟩;obtain ⟨fi,hf4⟩:=ay bx;have Cj:w.heap.size < w4.heap.size:=sq bx.size;have Ck:w.heap.size+1 < w4.heap.size:=sq bx.size;have Cl:w.heap.size+1+1 < w4.heap.size:=sq bx.size;have Cn:w1.heap.size < w4.heap.size:=sq bx.size;have Co:w2.heap.size < w4.heap.size:=sq bx.size;have po:Hid (am w4 (w.heap.size+1+1+1) x [.slice dG x.aa.length bV,.slice dS x.V.length dJ,.int .i64 x.next,.int .i64 x.weights.pack,.int .i64 x.weights.af,.int .i64 x.weights.an] G1):=I ((((((jX.mono S').alloc _).ext ar).alloc _).ext bb).ext bx);clear jX bI hRM;go_wp2_with fail
 try dsimp only
 iterate 60 (first | go_step | skip)
 refine bodyPost_ret (v:=.tuple #[.agg #[.slice dG x.aa.length bV,.slice dS x.V.length dJ,.int .i64 x.next,.int .i64 x.weights.pack,.int .i64 x.weights.af,.int .i64 x.weights.an],.int .i64 4]) (by simp [results,Tryz.results18,go_sem, *]) rfl ?_
 exact xb):P:=h
theorem Cr {P:Prop} (h:P:=by
 exact B9):P:=h
theorem xc {P:Prop} (h:P:=by
 have rr:=HS.out.cM.lt;go_wp2_with fail
 refine (Ld x _ _ v3 (IJ HX.out HS.out.aD) mP dp xd hv).mono ?_;rintro e w8 ⟨Lf,G8,rfl,sV,ki⟩;have T8:=HS.out.ext ki;have SY:=sV;obtain ⟨pG,aHA,aJp,aIC,aID,aBA,aHF,aHG,aJF,ayd,hF9,aye,aJq,aAR,aAS,aDs,aBB,aJG⟩:=dL sV.rd;subst ayd;clear hF9 sV;obtain ⟨r0,r1,r2,r3,r4,r5,r6⟩:=pH T8.rb;have rf:=T8.rb.fz;have rl:=T8.rb.lt;have po:=I SY;have Ai:=I T8;have Lg:w.heap.size+1 < v3.heap.size:=HS.out.rb.lt;clear SY T8 ki;go_wp2_with fail
 try dsimp only
 iterate 60 (first | go_step | skip)
 refine bodyPost_ret (v:=.tuple #[.agg #[.string x.name,.slice pG x.labels.length aHA,.int .i64 x.az,.int .i64 x.mem,.int .i64 x.aw,.slice aIC x.ai.length aID,.slice aHF x.ae.length aHG],.bool false]) (by simp [results,Tryz.results9,go_sem, *]) rfl ⟨[.string x.name,.slice pG x.labels.length aHA,.int .i64 x.az,.int .i64 x.mem,.int .i64 x.aw,.slice aIC x.ai.length aID,.slice aHF x.ae.length aHG],G8,by rw [nG.out];try rfl,?_,?_⟩
 ·rw [nG.out];refine am.mono (B:=v3.heap.size) ?_ J;exact Ak
 ·exact IK):P:=h
theorem Cs {P:Prop} (h:P:=by
 have HC:=I hc;have HN:=I Z;clear hc Z;go_wp2_with fail
 refine (sS x _ _ _ (aZ h b5) HW.out).mono ?_;rintro e w1 ⟨lr,G1,rfl,jX,bo,hRM⟩;obtain ⟨d7,gc⟩:=ay bo;have wv:w.heap.size < w1.heap.size:=sq bo.size;have wy:w.heap.size+1 < w1.heap.size:=sq bo.size;have wH:w.heap.size+1+1 < w1.heap.size:=sq bo.size;have cH:=jX.rd;obtain ⟨dG,bV,xq,dS,dJ,Bz,aE,hG1,oO,tq,wI,iV,gI,iW⟩:=aO cH;subst aE;clear hG1 cH;go_wp2_with fail
 refine (II u _ _ _ (aZ h' b5) HU.out).mono ?_;rw [HN.out];rintro e w2 ⟨wJ,G2,rfl,bI,ar⟩;obtain ⟨cq,cL⟩:=ay ar;have wK:w.heap.size < w2.heap.size:=sq ar.size;have wN:w.heap.size+1 < w2.heap.size:=sq ar.size;have wS:w.heap.size+1+1 < w2.heap.size:=sq ar.size;have wT:w1.heap.size < w2.heap.size:=sq ar.size;have iZ:=bI.rd;obtain ⟨bY,bZ,iq,eU,eX,jV,bg,bn,dK,aE,hG2,jW,dA,kQ,lg,lG,iO,bK⟩:=dL iZ;subst aE;clear hG2 iZ;go_wp2_with fail
 refine (qM x _ _ _ (aZ h b5) HW.out).mono ?_;rw [HC.out];rintro e w3 ⟨rfl,bb⟩;obtain ⟨dm,hf3⟩:=ay bb;have wV:w.heap.size < w3.heap.size:=sq bb.size;have wX:w.heap.size+1 < w3.heap.size:=sq bb.size;have wY:w.heap.size+1+1 < w3.heap.size:=sq bb.size;have wZ:w1.heap.size < w3.heap.size:=sq bb.size;have xa:w2.heap.size < w3.heap.size:=sq bb.size;have po:Hid (am w3 (w.heap.size+1+1+1) x [.slice dG x.aa.length bV,.slice dS x.V.length dJ,.int .i64 x.next,.int .i64 x.weights.pack,.int .i64 x.weights.af,.int .i64 x.weights.an] G1):=I (((((jX.mono S').alloc _).ext ar).alloc _).ext bb);clear jX bI hRM;go_wp2_with fail
 try dsimp only
 iterate 60 (first | go_step | skip)
 refine bodyPost_ret (v:=.tuple #[.agg #[.slice dG x.aa.length bV,.slice dS x.V.length dJ,.int .i64 x.next,.int .i64 x.weights.pack,.int .i64 x.weights.af,.int .i64 x.weights.an],.int .i64 1]) (by simp [results,Tryz.results18,go_sem, *]) rfl ?_
 exact xb):P:=h
theorem Ct {P:Prop} (h:P:=by
 exact vG):P:=h
theorem Cu {P:Prop} (h:P:=by
 exact vQ):P:=h
theorem ej {P:Prop} (h:P:=by
 exact sL):P:=h
theorem Cv {P:Prop} (h:P:=by
 have HC:=I hc;have HN:=I Z;clear hc Z;go_wp2_with fail
 refine (sS x _ _ _ (aZ h b5) HW.out).mono ?_;rintro e w1 ⟨lr,G1,rfl,jX,bo,hRM⟩;obtain ⟨d7,gc⟩:=ay bo;have wv:w.heap.size < w1.heap.size:=sq bo.size;have wy:w.heap.size+1 < w1.heap.size:=sq bo.size;have wH:w.heap.size+1+1 < w1.heap.size:=sq bo.size;have cH:=jX.rd;obtain ⟨dG,bV,xq,dS,dJ,Bz,aE,hG1,oO,tq,wI,iV,gI,iW⟩:=aO cH;subst aE;clear hG1 cH;go_wp2_with fail
 refine (IM u _ _ _ (aZ h' b5) HU.out).mono ?_;rw [HN.out];rintro e w2 ⟨wJ,G2,rfl,bI,ar⟩;obtain ⟨cq,cL⟩:=ay ar;have wK:w.heap.size < w2.heap.size:=sq ar.size;have wN:w.heap.size+1 < w2.heap.size:=sq ar.size;have wS:w.heap.size+1+1 < w2.heap.size:=sq ar.size;have wT:w1.heap.size < w2.heap.size:=sq ar.size;have iZ:=bI.rd;obtain ⟨bY,bZ,iq,wP,wQ,Qe,aE,hG2,jW,dA,kQ,lg,Nh,Bd⟩:=iy iZ;subst aE;clear hG2 iZ;go_wp2_with fail
 refine (qM x _ _ _ (aZ h b5) HW.out).mono ?_;rw [HC.out];rintro e w3 ⟨rfl,bb⟩;obtain ⟨dm,hf3⟩:=ay bb;have wV:w.heap.size < w3.heap.size:=sq bb.size;have wX:w.heap.size+1 < w3.heap.size:=sq bb.size;have wY:w.heap.size+1+1 < w3.heap.size:=sq bb.size;have wZ:w1.heap.size < w3.heap.size:=sq bb.size;have xa:w2.heap.size < w3.heap.size:=sq bb.size;have po:Hid (am w3 (w.heap.size+1+1+1) x [.slice dG x.aa.length bV,.slice dS x.V.length dJ,.int .i64 x.next,.int .i64 x.weights.pack,.int .i64 x.weights.af,.int .i64 x.weights.an] G1):=I (((((jX.mono S').alloc _).ext ar).alloc _).ext bb);clear jX bI hRM;go_wp2_with fail
 try dsimp only
 iterate 60 (first | go_step | skip)
 refine bodyPost_ret (v:=.tuple #[.agg #[.slice dG x.aa.length bV,.slice dS x.V.length dJ,.int .i64 x.next,.int .i64 x.weights.pack,.int .i64 x.weights.af,.int .i64 x.weights.an],.int .i64 1]) (by simp [results,Tryz.results145,go_sem, *]) rfl ?_
 exact Cw):P:=h
theorem sT {P:Prop} (h:P:=by
 go_enter Tryz.func125,Tryz.ntmps125;go_wp2_with fail
 refine (qK x.key _ gd).mono ?_;rw [HK.out];rintro e w2 ⟨rfl,ar⟩;obtain ⟨cq,cL⟩:=ay ar;have cw:w.heap.size < w2.heap.size:=by have:=ar.size;simp at this;omega
 have ei:w2.cell? ⟨w.heap.size,1,none⟩ = some (.int .i64 x.op):=by rw [cq _ _ S',cell_of_row _ _ _ _ _ _ (heap_alloc_new w _)];rfl
 have lR:w2.cell? ⟨w.heap.size,2,none⟩ = some (.slice jy x.values.length ji):=by rw [cq _ _ S',cell_of_row _ _ _ _ _ _ (heap_alloc_new w _)];rfl
 have eM:Below w.heap.size w w2:=bJ;clear cq cL;go_wp2;go_ret
 exact ⟨by rw [HF.out];first | rfl | simp_all,eM⟩):P:=h
theorem Cx {P:Prop} (h:P:=by
 have cA:(fJ k (d8 x n) x.V).length = x.V.length+1:=by rw [xe]
 obtain ⟨A9,c9,F9,hv9,SY,hF9⟩:=am.IN (xs:=fJ k (d8 x n) x.V) IP (lu.out.bs (fun y hy=>oI.out y (jN.out y hy).1) J) (fun q hq hm=>by have:=(lv.out.lt q hq).1;have:=(jN.out q hm).1;omega);rw [cA] at hv9 SY;simp only [Value.slice.injEq,true_and] at hv9;obtain ⟨rfl,rfl⟩:=hv9
 have ur:=I (am.IR (sU.out.bs (fun y hy=>oI.out y (by have:=oL.out y hy;omega)) J) SY (fun y hm hy=>by
  rcases hF9 y hy with h9 | h9
  ·exact (jN.out y h9).2.2 hm
  ·have:=(lv.out.lt y h9).1;have:=oL.out y hm;omega) (show br (x.next+1) by unfold br;omega) iV gI iW)
 have oM:=I (show ∀y∈Gh++F9,y≠w1.heap.size from fun y hy=>by
  rcases List.mem_append.1 hy with hy | hy
  ·have:=oL.out y hy;omega
  ·rcases hF9 y hy with h9 | h9
   ·exact (jN.out y h9).2.1
   ·have:=(lv.out.lt y h9).1;omega)
 have XA:=sX.out;clear SY hF9;try dsimp only
 iterate 90 (first | go_step | skip)
 refine bodyPost_ret (v:=.tuple #[.agg #[.slice dG x.aa.length bV,.slice (some ⟨g8,0,none⟩) (x.V.length+1) p8,.int .i64 (x.next+1),.int .i64 x.weights.pack,.int .i64 x.weights.af,.int .i64 x.weights.an],.int .i64 0]) (by simp [results,Tryz.results18,go_sem, *]) rfl ?_;rw [HF.out,← sY.out];first | refine ⟨[.slice dG x.aa.length bV,.slice (some ⟨g8,0,none⟩) (x.V.length+1) p8,.int .i64 (x.next+1),.int .i64 x.weights.pack,.int .i64 x.weights.af,.int .i64 x.weights.an],Gh++F9,rfl,?_,?_⟩ | refine ⟨[.slice dG x.aa.length bV,.slice (some ⟨g8,0,none⟩) (x.V.length+1) p8,.int .i64 (x.next+1),.int .i64 x.weights.pack,.int .i64 x.weights.af,.int .i64 x.weights.an],rfl,⟨Gh++F9,?_⟩,?_⟩
 ·exact s7
 ·exact pI):P:=h
theorem Cy {P:Prop} (h:P:=by
 have HF:=I (show ik x u = (x,1) by unfold ik;rw [hc,gN];simp);have HC:=I hc;have Du:=I gN;clear hc gN;go_enter Tryz.func109,Tryz.ntmps109;go_wp2_with fail
 refine (BO x _ _ _ (aZ h b5) HW.out).mono ?_;rintro e w1 ⟨lr,G1,rfl,jX,bo⟩;have cH:=jX.rd;obtain ⟨dG,bV,xq,dS,dJ,Bz,aE,hG1,oO,tq,wI,iV,gI,iW⟩:=aO cH;subst aE;clear hG1 cH;obtain ⟨d7,gc⟩:=ay bo;have VQ:w.heap.size < w1.heap.size:=sq bo.size;have lT:w.heap.size+1 < w1.heap.size:=sq bo.size;have PG:w.heap.size+1+1 < w1.heap.size:=sq bo.size;have fp:=jX.lt;go_wp2_with fail
 refine (qM x _ _ _ (aZ h b5) HW.out).mono ?_;rw [HC.out];rintro e w2 ⟨rfl,ar⟩;obtain ⟨cq,cL⟩:=ay ar;have VR:w.heap.size < w2.heap.size:=sq ar.size;have lU:w.heap.size+1 < w2.heap.size:=sq ar.size;have PH:w.heap.size+1+1 < w2.heap.size:=sq ar.size;have VT:w1.heap.size < w2.heap.size:=sq ar.size;have bI:am w2 (w.heap.size+1+1+1) x [.slice dG x.aa.length bV,.slice dS x.V.length dJ,.int .i64 x.next,.int .i64 x.weights.pack,.int .i64 x.weights.af,.int .i64 x.weights.an] G1:=((jX.mono S').alloc _).ext ar
 exact Cz):P:=h
theorem CA {P:Prop} (h:P:=by
 have h2:jo w6 [ns[0]] Af G6:=lQ.frame (fun b X=>eT.block b (lQ.lt b X) (fun hv=>by
  have h4:=ei b hv.symm;rcases Lh b X with h | h
  ·simp only [World.size_alloc] at *;omega
  ·have:=Am.out.lt b h;omega)) eT.size
 have h3:=h1.append h2;have Vj:(ns.tail++[ns[0]]).length = ns.length - 1+[ns[0]].length:=by simp
 obtain ⟨A6,c6,F6,hv6,hS6,hF6⟩:=Sl.mO (xs:=ns.tail++[ns[0]]) (e:=70) (v:=v6) (by rw [Vj];exact R6) h3;have cS:∀y∈F6,y≠w.heap.size∧y≠w2.heap.size:=fun y hy=>by
  rcases hF6 y hy with h | h
  ·rcases List.mem_append.1 h with h | h
   ·have:=ut.out.base y h;omega
   ·rcases Lh y h with h | h
    ·simp only [World.size_alloc] at *;omega
    ·exact BN.out y h
  ·have:=(R6.lt y h).1;omega
 have vK:rd w6 (ns.tail++[ns[0]]) [.slice A6 (ns.tail++[ns[0]]).length c6] F6:=hS6;rw [sg] at hv6 vK;subst hv6;have Y6:=kj.out.ext ij;have k6:=Y6.cell (i:=5) (u:=.slice (some ⟨bl,ol,none⟩) ns.length cn) rfl;have f6:=Y6.fz 5;refine hK _ _ ij ?_;try simp only [Act.put,pz]
 clear hK K;refine cc 10 O U' O (fun K hK=>?_);go_simp;refine hK _ _ ij ?_;try simp only [Act.put,pz]
 clear hK K;refine kg U' ?_;refine bP 11 O U' O (fun K hK=>?_);go_simp;refine hK _ _ trivial ?_;try simp only [Act.put,pz]
 clear hK K;refine nR U' ?_
 exact HK _ _ ⟨A6,c6,F6,_,_,_,_,_,_,_,_,_,_,_,uo,(nN.lq _ ij).setCell (p:=⟨w2.heap.size,5,none⟩) (List.mem_singleton.2 rfl) _,Y6.put 5 _,⟨bc.frame vK (fun b X=>Below.heap_setCell _ _ _ _ (by have:=cS b X;dsimp only;omega)) eC,fun b _=>Nat.zero_le b⟩,cS⟩):P:=h
theorem CB {P:Prop} (h:P:=by
 rintro e w1 ⟨ds,G,rfl,hO,bo⟩;have hR:=hO.rd;obtain ⟨kM,kN,ND,ny,nC,TD,aE,hGr,NG,TF,TG,xI,uD,xJ⟩:=aO hR;subst aE;clear hGr hR;have cE:=bo.size;simp at cE;have XB:oG w1 (w.heap.size+1+1) [.slice none 0 0,.slice none 0 0,.int .i64 0,.int .i64 0,.int .i64 0,.int .i64 0]:=oG.ext (oG.ul w _ _ [.slice none 0 0,.slice none 0 0,.int .i64 0,.int .i64 0,.int .i64 0,.int .i64 0] 29) bo;have HO:=I (hO.mono (B':=w.heap.size+1+1+1) S');have ar:Below w.heap.size w w1:=ah b5 bo;clear hO bo h;try dsimp only
 iterate 8 go_step
 refine kB 29 _ _ rfl (w.heap.size+1+1) 0 [.slice kM R.aa.length kN,.slice ny R.V.length nC,.int .i64 R.next,.int .i64 R.weights.pack,.int .i64 R.weights.af,.int .i64 R.weights.an] [.slice none 0 0,.slice none 0 0,.int .i64 0,.int .i64 0,.int .i64 0,.int .i64 0] rfl rfl XB S' U' ex ?_;intro w2 YB OB;replace YB:oG w2 (w.heap.size+1+1) [.slice kM R.aa.length kN,.slice ny R.V.length nC,.int .i64 R.next,.int .i64 R.weights.pack,.int .i64 R.weights.af,.int .i64 R.weights.an]:=YB;try dsimp only [Act.put]
 go_wp2;refine bodyPost_ret (v:=.tuple #[.agg #[.slice kM R.aa.length kN,.slice ny R.V.length nC,.int .i64 R.next,.int .i64 R.weights.pack,.int .i64 R.weights.af,.int .i64 R.weights.an],.int .i64 cd]) (vW Tryz.results104 _ (w.heap.size+1+1) [.slice kM R.aa.length kN,.slice ny R.V.length nC,.int .i64 R.next,.int .i64 R.weights.pack,.int .i64 R.weights.af,.int .i64 R.weights.an] _ _ rfl rfl YB Tryz.underlying29 rfl U') rfl ?_
 exact Ca):P:=h
theorem CC {P:Prop} (h:P:=by
 have cA:(fJ k n x.aa).length = x.aa.length+1:=by rw [xe]
 obtain ⟨A9,c9,F9,hv9,SY,hF9⟩:=am.IN (xs:=fJ k n x.aa) IP (lu.out.bs (fun y hy=>oI.out y (jN.out y hy).1) J) (fun q hq hm=>by have:=(lv.out.lt q hq).1;have:=(jN.out q hm).1;omega);rw [cA] at hv9 SY;simp only [Value.slice.injEq,true_and] at hv9;obtain ⟨rfl,rfl⟩:=hv9
 have ur:=I (am.IR SY (sU.out.bs (fun y hy=>oI.out y (by have:=mQ.out y hy;omega)) J) (fun y hy=>by
  rcases hF9 y hy with h9 | h9
  ·exact (jN.out y h9).2.2
  ·have:=(lv.out.lt y h9).1;exact fun hm=>by have:=mQ.out y hm;omega) wI iV gI iW)
 have oM:=I (show ∀y∈F9++Gp,y≠w1.heap.size from fun y hy=>by
  rcases List.mem_append.1 hy with hy | hy
  ·rcases hF9 y hy with h9 | h9
   ·exact (jN.out y h9).2.1
   ·have:=(lv.out.lt y h9).1;omega
  ·have:=mQ.out y hy;omega)
 have XA:=sX.out;clear SY hF9;try dsimp only
 iterate 60 (first | go_step | skip)
 refine bodyPost_ret (v:=.tuple #[.agg #[.slice (some ⟨g8,0,none⟩) (x.aa.length+1) p8,.slice dS x.V.length dJ,.int .i64 x.next,.int .i64 x.weights.pack,.int .i64 x.weights.af,.int .i64 x.weights.an],.int .i64 0]) (by simp [results,Tryz.results145,go_sem, *]) rfl ?_;rw [HF.out,← sY.out];refine ⟨[.slice (some ⟨g8,0,none⟩) (x.aa.length+1) p8,.slice dS x.V.length dJ,.int .i64 x.next,.int .i64 x.weights.pack,.int .i64 x.weights.af,.int .i64 x.weights.an],F9++Gp,rfl,?_,?_⟩
 ·exact s7
 ·exact pI):P:=h
theorem s8 {P:Prop} (h:P:=by
 refine aN ?_;intro wn Z;replace Z:=Z.out;go_wp2;refine ⟨⟨s1++[z],s2,jj+1,I Ao,N',I PI,I (fun z' hz=>?_),ah bL Z⟩,by simp [intOf];omega⟩;rcases List.mem_append.1 hz with hz | hz
 ·exact HN.out z' hz
 ·rw [List.mem_singleton.1 hz];exact HL.out):P:=h
theorem s9 {P:Prop} (h:P:=by
 rw [HF.out]
 first
  | refine ⟨[.slice dG x.aa.length bV,.slice dS x.V.length dJ,.int .i64 x.next,.int .i64 x.weights.pack,.int .i64 x.weights.af,.int .i64 x.weights.an],G1,rfl,?_,?_⟩
  | refine ⟨[.slice dG x.aa.length bV,.slice dS x.V.length dJ,.int .i64 x.next,.int .i64 x.weights.pack,.int .i64 x.weights.af,.int .i64 x.weights.an],rfl,⟨G1,?_⟩,?_⟩
 ·try dsimp only
  refine am.mono (B:=w.heap.size+1+1) ?_ J;have hO:=HO.out;exact PJ
 ·have hB:=HB.out
  exact PK):P:=h
theorem td {P:Prop} (h:P:=by
 go_enter Tryz.func20,Tryz.ntmps20;go_wp2_with fail
 rw [pJ.out]
 go_wp2_with (first
  | (go_at_call 48;refine (kH x.next 1 1000000000 _).mono ?_;rw [Jf.out];rintro e w1 ⟨rfl,nH⟩;simp only [← nH];clear nH w1)
  | (go_at_call 49;refine (pW x.weights.pack x.weights.af x.weights.an _).mono ?_;rw [Du.out];rintro e w2 ⟨rfl,ar⟩;obtain ⟨cq,cL⟩:=ay ar;have cw:w.heap.size < w2.heap.size:=(sq ar.size)))
 go_ret
 exact ⟨by rw [HF.out];rfl,bJ⟩):P:=h
theorem te {P:Prop} (h:P:=by
 rw [HF.out]
 first
  | refine ⟨[.slice dG x.aa.length bV,.slice dS x.V.length dJ,.int .i64 x.next,.int .i64 x.weights.pack,.int .i64 x.weights.af,.int .i64 x.weights.an],G1,rfl,?_,?_⟩
  | refine ⟨[.slice dG x.aa.length bV,.slice dS x.V.length dJ,.int .i64 x.next,.int .i64 x.weights.pack,.int .i64 x.weights.af,.int .i64 x.weights.an],rfl,⟨G1,?_⟩,?_⟩
 ·try dsimp only
  refine am.mono (B:=w.heap.size+1+1) ?_ J;exact PL
 ·exact pI):P:=h
theorem CD {P:Prop} (h:P:=by
 try dsimp only [Act.put]
 iterate 5 go_step
 refine kB 29 _ _ rfl (w.heap.size+1+1) 0 [.slice kM R.aa.length kN,.slice ny R.V.length nC,.int .i64 R.next,.int .i64 R.weights.pack,.int .i64 R.weights.af,.int .i64 R.weights.an] [.slice none 0 0,.slice none 0 0,.int .i64 0,.int .i64 0,.int .i64 0,.int .i64 0] rfl rfl PM S' U' ex ?_;intro w3 ZB OZ;replace ZB:oG w3 (w.heap.size+1+1) [.slice kM R.aa.length kN,.slice ny R.V.length nC,.int .i64 R.next,.int .i64 R.weights.pack,.int .i64 R.weights.af,.int .i64 R.weights.an]:=ZB;try dsimp only [Act.put]
 go_wp2;refine bodyPost_ret (v:=.tuple #[.agg #[.slice kM R.aa.length kN,.slice ny R.V.length nC,.int .i64 R.next,.int .i64 R.weights.pack,.int .i64 R.weights.af,.int .i64 R.weights.an],.int .i64 cd]) (vW Tryz.results66 _ (w.heap.size+1+1) [.slice kM R.aa.length kN,.slice ny R.V.length nC,.int .i64 R.next,.int .i64 R.weights.pack,.int .i64 R.weights.af,.int .i64 R.weights.an] _ _ rfl rfl ZB Tryz.underlying29 rfl U') rfl ?_
 exact ⟨[.slice kM R.aa.length kN,.slice ny R.V.length nC,.int .i64 R.next,.int .i64 R.weights.pack,.int .i64 R.weights.af,.int .i64 R.weights.an],G,rfl,(((HO.out.only OB (fun b X=>by have:=CE.out b X;omega))).only OZ (fun b X=>by have:=HO.out.base b X;omega)).mono (B':=w.heap.size) J,As (As HB.out OB J) OZ J⟩):P:=h
theorem xf {P:Prop} (h:P:=by
 intro wq hq;have ee:=(aB hq).1;have lJ:=(aB hq).2;go_simp
 first
  | exact ⟨hq,rfl⟩
  | (refine (Kq x p _ _ _ _ z _ (aJ PN.out (ah pp.out hq)) (aJ PO.out (ah pp.out hq)) HW.out Uc.out).mono ?_;rintro e wz ⟨rfl,fV⟩;rw [CF.out];exact ⟨rfl,aI hq fV⟩)
  | (simp only [↓IntWalk.iteOmega];exact ⟨hq,rfl⟩)):P:=h
theorem CH {P:Prop} (h:P:=by
 have HF:=I (show oH nm x p = 3 by rw [Aw.out,if_neg (by simp [hS]),if_neg hu,if_pos gc]);have HS:=I hS;clear hS;have H1:=I he1;clear he1;go_wp2_with fail
 refine (IG.out _ bJ).mono ?_;rw [HS.out];rintro e w4 ⟨rfl,bx⟩;obtain ⟨fi,hf4⟩:=ay bx;have Wy:w.heap.size < w4.heap.size:=(sq bx.size);have IF:w.heap.size+1 < w4.heap.size:=(sq bx.size);have Lb:w3.heap.size < w4.heap.size:=(sq bx.size);go_wp2_with fail
 refine (IH.out _ bJ).mono ?_;rintro e w5 ⟨rfl,bv⟩;obtain ⟨sM,pF⟩:=ay bv;have Es:w.heap.size < w5.heap.size:=(sq bv.size);have IV:w.heap.size+1 < w5.heap.size:=(sq bv.size);have Ad:w3.heap.size < w5.heap.size:=(sq bv.size);go_wp2_with fail
 refine (oQ a p.az _ ha kQ).mono ?_;rw [H1.out];rintro e w6 ⟨rfl,cS⟩;obtain ⟨ID,Xe⟩:=ay cS;have nF:w.heap.size < w6.heap.size:=(sq cS.size);have Vh:w.heap.size+1 < w6.heap.size:=(sq cS.size);have Vi:w3.heap.size < w6.heap.size:=(sq cS.size)
 exact wg):P:=h
theorem xh {P:Prop} (h:P:=by
 obtain ⟨u,b⟩:=R;rintro e w5 ⟨A6,c6,G6,rfl,iD,cS,Jg⟩;have fj:=I (eE.out.ext cS);have nJ:=I (kC.out.ext cS);have PP:=I (CI.out.ext cS);replace Jg:=I Jg;have iC:=I (hT.out.il cS J);replace iD:=I (iD.mono (B':=w.heap.size) J);have Li:(k:Int)+1≤2:=by omega
 exact CK):P:=h
theorem CL {P:Prop} (h:P:=by
 have eJ:∀y,y < wn.heap.size→w8.heap[y]? = wn.heap[y]?:=fun y hy=>(cN.block y J (fun e=>by have:=(nK.lt y e.symm).1;omega)).trans (bC.block y hy);have si:=cN.size;obtain ⟨FI,hOI,hFI⟩:=xi.out.ins xj.out Vk.out jj (by have:=di.out;omega);have CM:∀y∈FI,y < wn.heap.size:=fun y hy=>by
  rcases hFI y hy with h9 | h9
  ·exact xi.out.lt y h9
  ·exact xj.out.lt y h9
 refine ⟨⟨k+1,N+1,g8,p8,_,FI,J,J,N',rfl,I ?_,I ?_,I (vP Le (B':=w.heap.size) ju.out.size),I ?_,I ?_,?_⟩,by simp [intOf];omega⟩
 ·rw [Jf.out,HI.out,xe,di.out]
 ·intro j hj nL;exact CN
 ·rw [Jf.out,HI.out];exact hOI.bs (fun y hy=>eJ y (CM y hy)) J
 ·exact fun hm=>by have:=CM g8 hm;omega
 ·exact Below.grown (ju.out.trans (bC.mono ju.out.size)) cN (by have:=ju.out.size;omega) (fun q hq=>by have:=(nK.lt q hq).1;have:=ju.out.size;omega)):P:=h
theorem CP {P:Prop} (h:P:=by
 have rr:=HS.out.cM.lt;go_wp2_with fail
 refine (Lj x _ _ v2 (IJ HX.out HS.out.aD) mP dp).mono ?_;rintro e w8 ⟨Lf,G8,rfl,sV,ki⟩;have T8:=HS.out.ext ki;have SY:=sV;obtain ⟨pG,aHA,aJp,aIQ,aIR,aCm,ayd,hF9,aye,aJq,aAR,aAS,aDQ,aCn⟩:=iy sV.rd;subst ayd;clear hF9 sV;obtain ⟨r0,r1,r2,r3,r4,r5⟩:=dr T8.rb;have rf:=T8.rb.fz;have rl:=T8.rb.lt;have po:=I SY;have Ai:=I T8;have Lg:w.heap.size+1 < v2.heap.size:=HS.out.rb.lt;clear SY T8 ki;go_wp2_with fail
 try dsimp only
 iterate 60 (first | go_step | skip)
 refine bodyPost_ret (v:=.tuple #[.agg #[.string x.name,.slice pG x.labels.length aHA,.int .i64 x.az,.int .i64 x.mem,.int .i64 x.av,.slice aIQ x.aT.length aIR],.bool false]) (by simp [results,Tryz.results159,go_sem, *]) rfl ⟨[.string x.name,.slice pG x.labels.length aHA,.int .i64 x.az,.int .i64 x.mem,.int .i64 x.av,.slice aIQ x.aT.length aIR],G8,by rw [nG.out];try rfl,?_,?_⟩
 ·rw [nG.out];refine am.mono (B:=v2.heap.size) ?_ J;exact Ak
 ·exact IK):P:=h
theorem CR {P:Prop} (h:P:=by
 rcases h0 with ⟨hl,⟨rfl,Z⟩ | ⟨g,aq,dx,rfl,X,hh,gv,hm,cb,ht⟩⟩
 ·obtain rfl:xs = []:=List.eq_nil_of_length_eq_zero Z;exact ⟨none,0,[],rfl,⟨Sl.nil w none 0 (Nat.zero_le _),List.nodup_nil,(fun b X=>by cases X),(fun b X=>by cases X)⟩,(fun b X=>by cases X)⟩
 ·have hg:g < w.heap.size:=by
   exact CS
  refine ⟨_,aq,g :: F,rfl,⟨⟨_,aq,F,ds,rfl,gv,hm,h.rd,.inr ⟨g,0,rfl,rfl,hg,fun j u hu=>?_⟩⟩,?_,?_,?_⟩,fun y hy=>?_⟩
  ·rw [Nat.zero_add,cell_of_row w g j dx e (0,0) hh];exact xl
  ·rw [List.nodup_cons];exact ⟨b4 g rfl,h.nodup⟩
  ·intro b ek;rcases List.mem_cons.1 ek with rfl | ek
   ·exact X
   ·exact h.base b ek
  ·exact CT
  ·rcases List.mem_cons.1 hy with rfl | hy
   ·exact .inr rfl
   ·exact .inl hy):P:=h
theorem xm {P:Prop} (h:P:=by
 rw [HF.out]
 first
  | refine ⟨[.slice dG x.aa.length bV,.slice dS x.V.length dJ,.int .i64 x.next,.int .i64 x.weights.pack,.int .i64 x.weights.af,.int .i64 x.weights.an],G1,rfl,?_,?_⟩
  | refine ⟨[.slice dG x.aa.length bV,.slice dS x.V.length dJ,.int .i64 x.next,.int .i64 x.weights.pack,.int .i64 x.weights.af,.int .i64 x.weights.an],rfl,⟨G1,?_⟩,?_⟩
 ·try dsimp only
  refine am.mono (B:=w.heap.size+1+1) ?_ J;have hO:=fL.out;exact PQ
 ·have hB:=sj.out
  exact PR):P:=h
theorem xn {P:Prop} (h:P:=by
 simp only [Value.slice.injEq,true_and] at jx;obtain ⟨Lk,dm⟩:=jx;subst Lk dm;have gf:=I hO3;clear hO3;go_wp2_with fail
 refine jS.out.mono ?_;rw [uu.out];rintro e w4 ⟨rfl,bx⟩;have fS:=I bx;clear bx;go_wp2;go_ret2
 exact ⟨A2,c2,G3,by rw [HR.out];try rfl,by rw [HR.out];exact (gf.out.ext AD.out).ext fS.out,hZ.out.trans (fS.out.mono hZ.out.size),fun hh=>absurd hh CU⟩):P:=h
theorem pL {P:Prop} (h:P:=by
 exact Below.grown (ah lw.out bC) cN Vl (fun q hq=>by have:=(nK.lt q hq).1;have:=lw.out.size;omega)):P:=h
theorem CW {P:Prop} (h:P:=by
 rw [uu.out];rintro e w4 ⟨rfl,bx⟩;have fS:=I bx;clear bx;go_wp2;go_ret2
 exact ⟨some ⟨g,0,none⟩,aq,G4,by rw [HR.out,di.out];try rfl,by rw [HR.out];exact kC.out.ext fS.out,hZ.out.trans (fS.out.mono hZ.out.size),fun _=>ly.out.ext fS.out⟩):P:=h
theorem CX {P:Prop} (h:P:=by
 exact Cw):P:=h
theorem tf {P:Prop} (h:P:=by
 exact ⟨[.slice kM x.aa.length kN,.slice ny x.V.length nC,.int .i64 x.next,.int .i64 x.weights.pack,.int .i64 x.weights.af,.int .i64 x.weights.an],G,rfl,(HO.out.only OB (fun b X=>by have:=HO.out.base b X;omega)).mono (B':=w.heap.size) J,As ar OB J⟩):P:=h
theorem xo {P:Prop} (h:P:=by
 rw [Nat.zero_add,cell_of_row w g j dx e (0,0) hh]
 exact xl):P:=h
theorem xp {P:Prop} (h:P:=by
 refine ⟨⟨c1,c2,F1,F2,rfl,rfl,h1.rd,h2.rd⟩,?_,?_,?_⟩
 ·rw [List.nodup_append];exact ⟨h1.nodup,h2.nodup,fun a ha b X e=>hd a ha (e ▸ X)⟩
 ·intro b X;rcases List.mem_append.1 X with X | X
  ·exact h1.base b X
  ·exact h2.base b X
 ·intro b X;rcases List.mem_append.1 X with X | X
  ·exact h1.plain b X
  ·exact h2.plain b X):P:=h
theorem xr {P:Prop} (h:P:=by
 simpa only [List.map_append,List.map_cons,List.map_nil,List.append_assoc,List.cons_append,List.nil_append] using this):P:=h
theorem tg {P:Prop} (h:P:=by
 exact wg):P:=h
theorem CY {P:Prop} (h:P:=by
 intro wq hq;have ee:=(aB hq).1;have lJ:=(aB hq).2;go_simp
 first
  | exact ⟨hq,rfl⟩
  | exact ⟨aQ hq _,rfl⟩
  | ((refine (TN y z _ _ _ _ wq (aJ xt.out (ah pp.out hq)) (aJ PS.out (ah pp.out hq)) PT.out PU.out).mono ?_;rw [HL.out];rintro e wz ⟨rfl,fV⟩;exact ⟨rfl,aI hq fV⟩))
  | (simp only [↓IntWalk.iteOmega];exact ⟨hq,rfl⟩)):P:=h
theorem CZ {P:Prop} (h:P:=by
 intro wq hq;have ee:=(aB hq).1;have lJ:=(aB hq).2;go_simp
 first
  | exact ⟨hq,rfl⟩
  | exact ⟨aQ hq _,rfl⟩
  | ((refine (TN z y _ _ _ _ wq (aJ PS.out (ah pp.out hq)) (aJ xt.out (ah pp.out hq)) PU.out PT.out).mono ?_;rw [HL.out];rintro e wz ⟨rfl,fV⟩;exact ⟨rfl,aI hq fV⟩))
  | (simp only [↓IntWalk.iteOmega];exact ⟨hq,rfl⟩)):P:=h
theorem lV {P:Prop} (h:P:=by
 go_wp2
 all_goals
  go_ret
  exact ⟨by first | rfl | simp_all,bJ⟩):P:=h
theorem C0 {P:Prop} (h:P:=by
 intro wq hq;have ee:=(aB hq).1;have lJ:=(aB hq).2;go_simp
 first
  | exact ⟨hq,rfl⟩
  | exact ⟨aQ hq _,rfl⟩
  | ((refine (PV z y _ _ _ _ wq (Ll pM.out IS.out wq) (Ll pM.out IT.out wq)).mono ?_;rw [HL.out];rintro e wz ⟨rfl,fV⟩;exact ⟨rfl,aI hq fV⟩))
  | (simp only [↓IntWalk.iteOmega];exact ⟨hq,rfl⟩)):P:=h
theorem C1 {P:Prop} (h:P:=by
 intro wq hq;have ee:=(aB hq).1;have lJ:=(aB hq).2;go_simp
 first
  | exact ⟨hq,rfl⟩
  | exact ⟨aQ hq _,rfl⟩
  | ((refine (PZ z y _ _ _ _ wq (Lm pM.out IS.out wq) (Lm pM.out IT.out wq)).mono ?_;rw [HL.out];rintro e wz ⟨rfl,fV⟩;exact ⟨rfl,aI hq fV⟩))
  | (simp only [↓IntWalk.iteOmega];exact ⟨hq,rfl⟩)):P:=h
theorem C3 {P:Prop} (h:P:=by
 intro wq hq;have ee:=(aB hq).1;have lJ:=(aB hq).2;go_simp
 first
  | exact ⟨hq,rfl⟩
  | exact ⟨aQ hq _,rfl⟩
  | (refine (Oa x p _ _ _ _ x.aa[k].name _ (aJ h P0) (aJ h' P0) HW.out Uc.out).mono ?_;rw [IY.out];rintro e w2 ⟨rfl,ar⟩;exact ⟨rfl,aI hq ar⟩)
  | (simp only [↓IntWalk.iteOmega];exact ⟨hq,rfl⟩)):P:=h
theorem C4 {P:Prop} (h:P:=by
 intro wq hq;have ee:=(aB hq).1;have lJ:=(aB hq).2;go_simp
 first
  | exact ⟨hq,rfl⟩
  | exact ⟨aQ hq _,rfl⟩
  | (first | (refine (P1.out _ AE).mono ?_;rintro e w2 ⟨rfl,ar⟩;exact ⟨rfl,aI hq ar⟩) | (refine (xu.out _ AE).mono ?_;rintro e w2 ⟨rfl,ar⟩;exact ⟨rfl,aI hq ar⟩))
  | (simp only [↓IntWalk.iteOmega];exact ⟨hq,rfl⟩)):P:=h
theorem C5 {P:Prop} (h:P:=by
 intro wq hq;have ee:=(aB hq).1;have lJ:=(aB hq).2;go_simp
 first
  | exact ⟨hq,rfl⟩
  | exact ⟨aQ hq _,rfl⟩
  | (refine P2 (v:=.bool (Aq z y)) ?_ hq;unfold Aq;repeat' split;all_goals simp [*])
  | (simp only [↓IntWalk.iteOmega];exact ⟨hq,rfl⟩)):P:=h
theorem C6 {P:Prop} (h:P:=by
 intro wq hq;have ee:=(aB hq).1;have lJ:=(aB hq).2;go_simp
 first
  | exact ⟨hq,rfl⟩
  | exact ⟨aQ hq _,rfl⟩
  | (refine P2 (v:=.bool (oP z y)) ?_ hq;unfold oP;repeat' split;all_goals simp [*])
  | (simp only [↓IntWalk.iteOmega];exact ⟨hq,rfl⟩)):P:=h
theorem xv {P:Prop} (h:P:=by
 simp only [Value.slice.injEq,true_and] at jx;obtain ⟨Lk,dm⟩:=jx;subst Lk dm;have HO:=I hO3;clear hO3 bk dt pq;go_wp2;go_ret2
 exact ⟨A2,c2,G3,by rw [HR.out];try rfl,by rw [HR.out];exact HO.out,ar,fun hh=>absurd hh CU⟩):P:=h
theorem th {P:Prop} (h:P:=by
 rw [Jf.out,HI.out,List.length_append,List.length_cons,HJ.out];have:=gS.out;omega):P:=h
theorem C7 {P:Prop} (h:P:=by
 intro wq hq;have ee:=(aB hq).1;have lJ:=(aB hq).2;go_simp
 first
  | exact ⟨hq,rfl⟩
  | exact ⟨aQ hq _,rfl⟩
  | (first | (refine (C8.out _ (ah eM hq)).mono ?_;rintro e w3 ⟨rfl,bb⟩;exact ⟨rfl,aI hq bb⟩) | (refine (Vn _ _ J J).mono ?_;rw [HM.out];rintro e w3 ⟨rfl,rfl⟩;exact ⟨rfl,hq⟩))
  | (simp only [↓IntWalk.iteOmega];exact ⟨hq,rfl⟩)):P:=h
theorem xw {P:Prop} (h:P:=by
 intro j u hu;rw [Addr.add];have hc:=cell_of_row (w.alloc (.cells cs.toArray e)) w.heap.size j cs.toArray e (0,0) (heap_alloc_new w _);split
 ·rename_i hj;subst hj;rw [hc];simpa using hu
 ·simp only [Nat.zero_add];rw [hc];simpa using hu):P:=h
theorem C' {P:Prop} (h:P:=by
 refine ⟨0,[],[],Nat.zero_le _,rfl,?_,⟨rfl,rfl⟩,?_,ak (ak (aj _) _) _⟩
 ·have:=World.ownsRow_made (base:=w.heap.size+1) (e:=35) (size:=7) (w.alloc (.cells #[.slice bG x.aa.length bD,.slice dn x.V.length bW,.int .i64 x.next,.int .i64 x.weights.pack,.int .i64 x.weights.af,.int .i64 x.weights.an] 29)) #[] 0 S' kD rfl;simpa [F7] using this
 ·exact xy):P:=h
theorem Da {P:Prop} (h:P:=by
 intro wq hq;have ee:=(aB hq).1;have lJ:=(aB hq).2;go_simp
 first
  | exact ⟨hq,rfl⟩
  | (refine (Vo y r _).mono ?_;rw [HL.out];rintro e wz ⟨rfl,fV⟩;exact ⟨rfl,aI hq fV⟩)
  | (simp only [↓IntWalk.iteOmega];exact ⟨hq,rfl⟩)):P:=h
theorem xz {P:Prop} (h:P:=by
 exact CS):P:=h
theorem Db {P:Prop} (h:P:=by
 exact ((((((((((((((U3.out.new (Nat.le_refl _) 0 _).new (Nat.le_refl _) 1 _).new (Nat.le_refl _) 2 _).new (Nat.le_refl _) 3 _).new (Nat.le_refl _) 4 _).new (Nat.le_refl _) 5 _).new (Nat.le_refl _) 6 _).new (Nat.le_refl _) 7 _).new (Nat.le_refl _) 8 _).new (Nat.le_refl _) 9 _).new (Nat.le_refl _) 10 _).new (Nat.le_refl _) 11 _).new (Nat.le_refl _) 12 _).new (Nat.le_refl _) 13 _)):P:=h
theorem Dd {P:Prop} (h:P:=by
 intro wq hq;have ee:=(aB hq).1;have lJ:=(aB hq).2;go_simp
 first
  | exact ⟨hq,rfl⟩
  | exact ⟨aQ hq _,rfl⟩
  | (refine (C8.out _ (ah eM hq)).mono ?_;rintro e w3 ⟨rfl,bb⟩;exact ⟨rfl,aI hq bb⟩)
  | (simp only [↓IntWalk.iteOmega];exact ⟨hq,rfl⟩)):P:=h
theorem De {P:Prop} (h:P:=by
 go_wp2
 exact ⟨⟨k+1,N,g,aq,J,J,N',rfl,I P3,by rw [Jf.out,HI.out];exact mG gg.out (ah bL Z),ah eN.out (ah bL Z)⟩,by simp [intOf];omega⟩):P:=h
theorem Dg {P:Prop} (h:P:=by
 have hl7:yR.length = 7:=bc.len kG;have h2:List.take 7 (yR++don) = yR:=by rw [List.take_append_of_le_length J,List.take_of_length_le J]
 have h3:=congrArg (List.take 7) hdc;rw [h2] at h3;rw [← h3] at kG
 exact kG):P:=h
theorem Di {P:Prop} (h:P:=by
 intro wq hq;have ee:=(aB hq).1;have lJ:=(aB hq).2;go_simp
 first
  | exact ⟨hq,rfl⟩
  | fail
  | (simp only [↓IntWalk.iteOmega];exact ⟨hq,rfl⟩)):P:=h
theorem Dj {P:Prop} (h:P:=by
 rcases List.mem_append.1 hz with hz | hz
 ·exact HIS.out z (by rw [HE.out];exact List.mem_append_left _ hz)
 ·rcases List.mem_cons.1 hz with rfl | hz
  ·exact ax
  ·exact HIS.out z (by rw [HE.out];exact List.mem_append_right _ hz)):P:=h
theorem Dk {P:Prop} (h:P:=by
 have cT:(xs++[y]).length = xs.length+1:=by simp
 exact ⟨⟨xs++[y],_,_,A6,c6,k+1,by rw [cT],N',J,by rw [cT];omega,I ⟨⟨by rw [cT];exact dj,j0,by rw [cT];exact hne6⟩,by rw [ep];have:=pr.out;omega,eE.out.aD cS J,hT.out.il cS J⟩⟩,by simp only [intOf];omega⟩):P:=h
theorem Dl {P:Prop} (h:P:=by
 refine ⟨0,Nat.zero_le _,rfl,?_,?_,?_,ak (ak (aj _) _) _⟩
 ·exact (World.ownsRow_made w #[] 0 (Nat.le_refl _) kD rfl).alloc _
 ·have:=World.ownsRow_made (base:=w.heap.size) (e:=3) (size:=1) (w.alloc (.cells #[] 3)) #[] 0 S' kD rfl;simpa [iv] using this
 ·right;simp [Value.ownBlock]):P:=h
theorem Dm {P:Prop} (h:P:=by
 go_wp2;go_ret
 exact ⟨_,rfl,X.size,⟨⟨0,q,_,heap_alloc_new _ _,J,by unfold br;omega⟩,fun k hk=>(by
  obtain ⟨g,o,v,e,hg,hv,fW⟩:=ce k hk
  exact ⟨g,o,v,e,Nat.lt_of_lt_of_le hg X.size,((ak X _).cell (p:=⟨g,o+k,none⟩) hg).trans hv,fW⟩),Z⟩,ak X _⟩):P:=h
theorem xA {P:Prop} (h:P:=by
 refine am.up (B':=B) (fun x:rZ=>(x.pack,x.af,x.an)) ?_ (Nat.le_refl _)
 exact am.cons (jL w p hp) (am.cons (jL w q hq) (am.cK (jL w f hf)))):P:=h
theorem pN {P:Prop} (h:P:=by
 rw [Bool.eq_iff_iff,decide_eq_true_eq,Wx,ByteArray.toList_eq,ByteArray.toList_eq]):P:=h
theorem xC {P:Prop} (h:P:=by
 have e:GX a b = none:=by unfold GX;rw [if_pos J]
 rw [e];go_enter Tryz.func130,Tryz.ntmps130;go_wp2;go_returns
 exact ⟨rfl,aj _⟩):P:=h
theorem Dn {P:Prop} (h:P:=by
 go_wp2
 all_goals
  go_ret
  refine ⟨?_,rfl⟩;refine congrArg (fun b=>Ending.returned (Value.bool b)) ?_;show (_:Bool) = _;unfold GL;rw [Bool.eq_iff_iff];simp only [Bool.or_eq_true,Bool.and_eq_true,decide_eq_true_eq,Bool.false_eq_true,true_iff,false_iff]
  omega):P:=h
theorem xD {P:Prop} (h:P:=by
 have e:GX a b = none:=by unfold GX;rw [if_pos J]
 rw [e];go_enter Tryz.func90,Tryz.ntmps90;go_wp2;go_returns
 exact ⟨rfl,aj _⟩):P:=h
theorem pP {P:Prop} (h:P:=by
 rw [J5,← ByteArray.toList_eq,← ByteArray.toList_eq] at e
 simp [e] at h):P:=h
theorem ti {P:Prop} (h:P:=by
 rintro (h1 | h1 | h1)
 ·exact .inr (.inl h1)
 ·exact .inl h1
 ·exact .inr (.inr h1)):P:=h
theorem xF {P:Prop} (h:P:=by
 obtain ⟨g,o,v,e,hg,hc,hv⟩:=h3 k hk
 exact ⟨g,o,v,e,hg,(World.cell?_of_block (Below.heap_setCell _ _ _ _ bA)).trans hc,hv⟩):P:=h
theorem tj {P:Prop} (h:P:=by
 exact ⟨⟨g,0,none⟩,by simp [hc],rfl,fun q u hu=>by simp at hu⟩):P:=h
theorem oR {P:Prop} (h:P:=by
 rw [List.length_eq_zero_iff.1 h0] at hu
 simp at hu):P:=h
theorem tk {P:Prop} (h:P:=by
 go_wp2;go_ret
 exact ⟨xs,A',c',G,rfl,fL.out,Du.out,cO.out,fk.out,pu.out⟩):P:=h
theorem Dr {P:Prop} (h:P:=by
 have h1:=hall e he X;have h0:=(mem_ready.1 hr).1;rw [I0] at h1;rcases Nat.lt_or_ge i al.size with h' | h'
 ·simp [h'] at h0 h1;rw [h0] at h1;cases h1
 ·simp [Array.getElem?_eq_none h'] at h1):P:=h
theorem Ln {P:Prop} (h:P:=by
 rw [Jf.out,HI.out];have:=vP Le (B':=w2.heap.size) lw.out.size
 simpa only [List.flatMap_append,List.flatMap_cons,List.append_assoc,List.cons_append,List.nil_append,gw] using this):P:=h
theorem Lo {P:Prop} (h:P:=by
 rw [Jf.out,HI.out];have:=vP Le (B':=w2.heap.size) lw.out.size
 simpa only [List.flatMap_append,List.flatMap_cons,List.append_assoc,List.cons_append,List.nil_append,gh] using this):P:=h
theorem Ds {P:Prop} (h:P:=by
 exact ((((((((((((((cG.out.bj ax 0 _).bj ax 1 _).bj ax 2 _).bj ax 3 _).bj ax 4 _).bj ax 5 _).bj ax 6 _).bj ax 7 _).bj ax 8 _).bj ax 9 _).bj ax 10 _).bj ax 11 _).bj ax 12 _).bj ax 13 _)):P:=h
theorem Lp {P:Prop} (h:P:=by
 rw [Jf.out,HI.out];have:=vP Le (B':=w2.heap.size) lw.out.size
 simpa only [List.flatMap_append,List.flatMap_cons,List.append_assoc,List.cons_append,List.nil_append,gO] using this):P:=h
theorem Dy {P:Prop} (h:P:=by
 have bF:k = xs.length:=by omega
 subst bF;have hf:GZ xs 0 = some s:=by rw [HS.out,List.drop_length];rfl
 have HF:=I hf;clear hf;go_wp2;go_returns
 exact ⟨by rw [HF.out];rfl,aR⟩):P:=h
theorem oS {P:Prop} (h:P:=by
 go_wp2;go_ret
 exact ⟨by rw [hs.out];rfl,aj _⟩):P:=h
theorem Dz {P:Prop} (h:P:=by
 rw [Jf.out,← HMAP.out,HE.out,List.map_append,List.map_append,List.map_cons,Vp.out]
 exact (PY _ _ (fun z hz=>by obtain ⟨z0,cV,rfl⟩:=List.mem_map.1 hz;exact HN.out z0 cV) P4.out).symm):P:=h
theorem xH {P:Prop} (h:P:=by
 rcases Nat.lt_or_ge g w.heap.size with h5 | h5
 ·exact h5
 ·rw [Array.getElem?_eq_none h5] at h3;cases h3):P:=h
theorem xL {P:Prop} (h:P:=by
 unfold Lib.compareInt;rw [Bool.eq_iff_iff,decide_eq_true_eq,decide_eq_true_eq];repeat' split
 all_goals omega):P:=h
theorem DA {P:Prop} (h:P:=by
 rw [xt.out,HN.out];refine am.mono (B:=w.heap.size+1+1+1) ?_ J
 exact (by repeat (first | with_reducible exact I1.out | with_reducible refine am.setCell ?_ bA _))):P:=h
theorem DB {P:Prop} (h:P:=by
 rw [List.pairwise_append,List.pairwise_cons];refine ⟨h0.1,⟨X,h0.2.1⟩,fun a DC b ek=>?_⟩;rcases List.mem_cons.1 ek with rfl | ek
 ·exact ha a DC
 ·exact h0.2.2 a DC b ek):P:=h
theorem xN {P:Prop} (h:P:=by
 have h8:=oL.out y (Ie.out y h9)
 exact ⟨J,J,fun hm=>Lq.out y (Ie.out y h9) hm⟩):P:=h
theorem xP {P:Prop} (h:P:=by
 have h8:=mQ.out y (Ie.out y h9)
 exact ⟨J,J,fun hm=>Lq.out y hm (Ie.out y h9)⟩):P:=h
theorem xR {P:Prop} (h:P:=by
 split
 ·rename_i h2;first | exact h2 | exact h2.2
 ·rename_i h2;rw [if_neg h2] at h;cases h):P:=h
theorem DD {P:Prop} (h:P:=by
 have fX:k = 0∨k = 1∨k = 2∨k = 3∨k = 4∨k = 5:=by omega
 rcases fX with rfl | rfl | rfl | rfl | rfl | rfl <;> exact ⟨_,oT _ _ _ _ _ rfl,by decide⟩):P:=h
theorem tm {P:Prop} (h:P:=by
 exact (bw.cell (p:=⟨g,q,none⟩) bA).trans (sk.out q u hu)):P:=h
theorem xS {P:Prop} (h:P:=by
 go_wp2;go_ret
 exact ⟨by rw [HG.out];first | rfl | simp_all,aR⟩):P:=h
theorem DE {P:Prop} (h:P:=by
 obtain ⟨g,o,v,e,hg,hv,fW⟩:=ce.out k hk
 exact ⟨g,o,v,e,Nat.lt_of_lt_of_le hg hZ.out.size,(hZ.out.cell (p:=⟨g,o+k,none⟩) hg).trans hv,fW⟩):P:=h
theorem xT {P:Prop} (h:P:=by
 go_enter Tryz.func63,Tryz.ntmps63;go_wp2;go_ret
 exact ⟨rfl,rfl⟩):P:=h
theorem DG {P:Prop} (h:P:=by
 have Z:=Hn.out;rw [bF,List.take_length] at Z;have HI:=I (F5 Z);clear Z bF;go_wp2;go_ret
 exact ⟨by rw [HI.out];rfl,bJ⟩):P:=h
theorem DH {P:Prop} (h:P:=by
 refine aN ?_;intro wn Z;replace Z:=Z.out;go_wp2;go_ret
 exact ⟨by rw [HF.out,HM.out] <;> first | rfl | (simp;omega),ah eM Z⟩):P:=h
theorem Ls {P:Prop} (h:P:=by
 refine aN ?_;intro wn Z;replace Z:=Z.out;go_wp2
 exact ⟨⟨k+1,P6,N',ah bL Z⟩,by simp [intOf];omega⟩):P:=h
theorem DJ {P:Prop} (h:P:=by
 have h1:=rM (f:=ba.wt) hk;have h2:ba.wt x.aa[k] = x.aa[k].name.size+kL ap.wt x.aa[k].labels+kL iU.wt x.aa[k].aT:=rfl
 omega):P:=h
theorem tp {P:Prop} (h:P:=by
 simp only [Bool.and_eq_true,decide_eq_true_eq] at h
 omega):P:=h
theorem DM {P:Prop} (h:P:=by
 have fX:k = 0∨k = 1∨k = 2:=by omega
 rcases fX with rfl | rfl | rfl <;> exact ⟨_,oT _ _ _ _ _ rfl,by unfold br;omega⟩):P:=h
theorem pE {P:Prop} (h:P:=by
 simp only [List.map_cons,List.sum_cons];omega):P:=h
theorem DO {P:Prop} (h:P:=by
 obtain ⟨g,o,v,e,hg,hv,fW⟩:=HS.out k hk
 exact ⟨g,o,v,e,by simp;omega,((ak (aj w) _).cell (p:=⟨g,o+k,none⟩) hg).trans hv,fW⟩):P:=h
theorem DP {P:Prop} (h:P:=by
 rintro e w2 ⟨rfl,hw⟩;rw [hw];clear hw w2;go_wp2;go_ret
 exact ⟨by rw [HF.out];rfl,aj _⟩):P:=h
theorem DQ {P:Prop} (h:P:=by
 rw [xK] at h;rcases MK h with h | h
 ·exact .inl h
 ·rw [List.mem_singleton.1 h];exact .inr (List.mem_cons_self ..)):P:=h
theorem xU {P:Prop} (h:P:=by
 go_wp2
 exact ⟨⟨k+1,J,N',Gn.out,bJ⟩,by simp [intOf];omega⟩):P:=h
theorem DS {P:Prop} (h:P:=by
 rcases h0 with ⟨rfl,rfl⟩ | ⟨b,o',_,rfl,_⟩
 ·rw [hc.2];intro b X;cases X
 ·intro x hx;exact List.mem_cons_of_mem _ hx):P:=h
theorem DT {P:Prop} (h:P:=by
 rw [Ac.out];rintro e wn ⟨rfl,Z⟩;go_wp2;go_ret
 exact ⟨by rw [HF.out];first | rfl | simp,ah dX Z⟩):P:=h
theorem DU {P:Prop} (h:P:=by
 refine ⟨⟨k+1,J,N',by rw [P7 _ _ _ ax];exact bu,by rw [P7 _ _ _ ax];exact jx,DW.symm,bb⟩,by simp [intOf];omega⟩):P:=h
theorem DX {P:Prop} (h:P:=by
 refine aN ?_;intro wn Z;replace Z:=Z.out;go_wp2;go_ret
 exact ⟨by rw [HF.out,HM.out];rfl,ah eM Z⟩):P:=h
theorem DY {P:Prop} (h:P:=by
 clear hp;have HI:=I (Fj ax Hn.out HP.out);go_wp2;go_ret
 exact ⟨by rw [HI.out];rfl,bJ⟩):P:=h
theorem xV {P:Prop} (h:P:=by
 refine Or.inl ⟨rfl,fun wq hq=>?_⟩;go_simp
 try rfl):P:=h
theorem DZ {P:Prop} (h:P:=by
 rw [show (⟨b,o',none⟩:Addr).add j = ⟨b,o'+j,none⟩ from by unfold Addr.add;split <;> simp_all]
 exact bE j u hu):P:=h
theorem D0 {P:Prop} (h:P:=by
 obtain ⟨j,xX,rfl⟩:=List.getElem_of_mem hz;rw [List.getElem_take];rw [List.length_take] at xX
 exact hN j J J):P:=h
theorem xY {P:Prop} (h:P:=by
 simp only [List.map_nil,List.sum_nil,List.length_nil] at h hl;omega):P:=h
theorem D1 {P:Prop} (h:P:=by
 exact am.oJ h ⟨dt D hr,List.nodup_nil,(fun b X=>by cases X),(fun b X=>by cases X)⟩ (fun g hg hm=>by cases hm)):P:=h
theorem D2 {P:Prop} (h:P:=by
 have bF:k = xs.length:=by omega
 subst bF;go_wp2;go_ret
 exact ⟨by rw [List.take_length];rfl,aR⟩):P:=h
theorem D3 {P:Prop} (h:P:=by
 have h3:s.data.toList.length = 0:=by rw [← ByteArray.toList_eq,h1];rfl
 rw [Array.length_toList] at h3
 exact h3):P:=h
theorem xZ {P:Prop} (h:P:=by
 rw [h,if_neg J,hs,Int.toNat_natCast,List.getElem?_eq_getElem hk]):P:=h
theorem D4 {P:Prop} (h:P:=by
 rcases Nat.lt_or_ge g w.heap.size with ax | nP
 ·exact ax
 ·rw [Array.getElem?_eq_none nP] at h3;cases h3):P:=h
theorem D5 {P:Prop} (h:P:=by
 cases j with
 | zero=>rwa [cF hj] at this
 | succ i=>rw [yS hj,Bool.and_eq_true] at this;exact this.1):P:=h
theorem D6 {P:Prop} (h:P:=by
 intro HK;have aK:Below wn.heap.size wn wn.drew:=aA (aj _);refine aX 1 _ O U' H' aK W' ?_;try simp only [Act.put,pz]
 refine aX 2 _ O U' H' aK W' ?_;try simp only [Act.put,pz]
 refine aX 3 _ O U' H' aK W' ?_;try simp only [Act.put,pz]
 refine aX 5 _ O U' H' aK W' ?_;try simp only [Act.put,pz]
 refine aX 6 _ O U' H' aK W' ?_;try simp only [Act.put,pz]
 refine aX 7 _ O U' H' aK W' ?_;try simp only [Act.put,pz]
 refine aX 8 _ O U' H' aK W' ?_;try simp only [Act.put,pz]
 refine D7 0 9 O O U' O O (fun K hK=>?_) (fun K hK=>?_)
 ·go_simp;refine hK _ _ (ak aK (.cells #[] 117)) ?_;try simp only [Act.put,pz]
  clear hK K;have Qz:=ak aK (.cells #[] 117);have KI:=D9 wn.drew 117 4 wn.heap.size rfl;refine D7 4 9 O O U' O O (fun K hK=>?_) (fun K hK=>?_)
  ·refine qQ oV _ _ O (wn.drew.alloc (.cells #[] 117)) wn.heap.size _ 0 [] KI O ⟨g,0,none⟩ jj aq ((s1.flatMap gh)) O Lt (fun q u hu=>(Qz.cell (p:=(⟨g,0,none⟩:Addr).add q) iB).trans (eo.out q u hu)) (mR uv s1) J J fg ?_;intro v5 w5 aL b8 fh;have bv:Below wn.heap.size wn w5:=Below.grown (Qz) b8 fg (fun q hq=>(KI.lt q hq).1);refine hK _ _ bv ?_;try simp only [Act.put,pz]
   clear hK K;refine bP 9 O U' O (fun K hK=>?_);go_simp;refine hK _ _ (ak bv (.cells #[.string y.key,.bool y.equal,.string y.value,.int .i64 y.ao] 117)) ?_;try simp only [Act.put,pz]
   clear hK K;have cC:=ak bv (.cells #[.string y.key,.bool y.equal,.string y.value,.int .i64 y.ao] 117);refine bP 10 O U' O (fun K hK=>?_);refine qQ oV _ _ O (w5.alloc (.cells #[.string y.key,.bool y.equal,.string y.value,.int .i64 y.ao] 117)) wn.heap.size v5 _ _ (mG aL (ak (aj _) _)) O ⟨w5.heap.size,0,none⟩ 1 1 [.string y.key,.bool y.equal,.string y.value,.int .i64 y.ao] O O (DI w5 117 [.string y.key,.bool y.equal,.string y.value,.int .i64 y.ao] w5.heap.size rfl) (uv y) J J fo ?_;exact tt
  ·go_simp;refine hK _ _ (ak Qz (.cells #[.string y.key,.bool y.equal,.string y.value,.int .i64 y.ao] 117)) ?_;try simp only [Act.put,pz]
   clear hK K;have cC:=ak Qz (.cells #[.string y.key,.bool y.equal,.string y.value,.int .i64 y.ao] 117);replace KI:=mG KI (ak (aj _) (.cells #[.string y.key,.bool y.equal,.string y.value,.int .i64 y.ao] 117));refine bP 4 O U' O (fun K hK=>?_);refine qQ oV _ _ O ((wn.drew.alloc (.cells #[] 117)).alloc (.cells #[.string y.key,.bool y.equal,.string y.value,.int .i64 y.ao] 117)) wn.heap.size _ 0 [] KI O ⟨g,0,none⟩ jj aq ((s1.flatMap gh)) O Lt (fun q u hu=>(cC.cell (p:=(⟨g,0,none⟩:Addr).add q) iB).trans (eo.out q u hu)) (mR uv s1) J J fo ?_;intro v5 w5 aL b8 fh;have bv:Below wn.heap.size wn w5:=Below.grown (cC) b8 fo (fun q hq=>(KI.lt q hq).1);refine hK _ _ bv ?_;try simp only [Act.put,pz]
   clear hK K;refine bP 10 O U' O (fun K hK=>?_);refine qQ oV _ _ O w5 wn.heap.size v5 _ _ aL O ⟨wn.heap.size+1,0,none⟩ 1 1 [.string y.key,.bool y.equal,.string y.value,.int .i64 y.ao] O O (fun q u hu=>(World.cell?_of_block sc).trans ((DI (wn.drew.alloc (.cells #[] 117)) 117 [.string y.key,.bool y.equal,.string y.value,.int .i64 y.ao] (wn.heap.size+1) S') q u hu)) (uv y) J J hJ ?_;exact lO
 ·go_simp;refine hK _ _ (ak aK (.cells #[.string y.key,.bool y.equal,.string y.value,.int .i64 y.ao] 117)) ?_;try simp only [Act.put,pz]
  clear hK K;have cC:=ak aK (.cells #[.string y.key,.bool y.equal,.string y.value,.int .i64 y.ao] 117);refine bP 0 O U' O (fun K hK=>?_);go_simp;refine hK _ _ (ak cC (.cells #[] 117)) ?_;try simp only [Act.put,pz]
  clear hK K;have Qz:=ak cC (.cells #[] 117);have KI:=vP (D9 (wn.drew.alloc (.cells #[.string y.key,.bool y.equal,.string y.value,.int .i64 y.ao] 117)) 117 4 (wn.heap.size+1) S') (B':=wn.heap.size) J;refine bP 4 O U' O (fun K hK=>?_);refine qQ oV _ _ O ((wn.drew.alloc (.cells #[.string y.key,.bool y.equal,.string y.value,.int .i64 y.ao] 117)).alloc (.cells #[] 117)) wn.heap.size _ 0 [] KI O ⟨g,0,none⟩ jj aq ((s1.flatMap gh)) O Lt (fun q u hu=>(Qz.cell (p:=(⟨g,0,none⟩:Addr).add q) iB).trans (eo.out q u hu)) (mR uv s1) J J fg ?_;intro v5 w5 aL b8 fh;have bv:Below wn.heap.size wn w5:=Below.grown (Qz) b8 fg (fun q hq=>(KI.lt q hq).1);refine hK _ _ bv ?_;try simp only [Act.put,pz]
  clear hK K;refine bP 10 O U' O (fun K hK=>?_);refine qQ oV _ _ O w5 wn.heap.size v5 _ _ aL O ⟨wn.heap.size,0,none⟩ 1 1 [.string y.key,.bool y.equal,.string y.value,.int .i64 y.ao] O O (fun q u hu=>(World.cell?_of_block sd).trans ((DI wn.drew 117 [.string y.key,.bool y.equal,.string y.value,.int .i64 y.ao] wn.heap.size rfl) q u hu)) (uv y) J J hJ ?_
  exact lO):P:=h
theorem D8 {P:Prop} (h:P:=by
 intro HK;have aK:Below wn.heap.size wn wn.drew:=aA (aj _);refine aX 1 _ O U' H' aK W' ?_;try simp only [Act.put,pz]
 refine aX 2 _ O U' H' aK W' ?_;try simp only [Act.put,pz]
 refine aX 3 _ O U' H' aK W' ?_;try simp only [Act.put,pz]
 refine aX 5 _ O U' H' aK W' ?_;try simp only [Act.put,pz]
 refine aX 6 _ O U' H' aK W' ?_;try simp only [Act.put,pz]
 refine aX 7 _ O U' H' aK W' ?_;try simp only [Act.put,pz]
 refine aX 8 _ O U' H' aK W' ?_;try simp only [Act.put,pz]
 refine D7 0 9 O O U' O O (fun K hK=>?_) (fun K hK=>?_)
 ·go_simp;refine hK _ _ (ak aK (.cells #[] 126)) ?_;try simp only [Act.put,pz]
  clear hK K;have Qz:=ak aK (.cells #[] 126);have KI:=D9 wn.drew 126 3 wn.heap.size rfl;refine D7 4 9 O O U' O O (fun K hK=>?_) (fun K hK=>?_)
  ·refine qQ pQ _ _ O (wn.drew.alloc (.cells #[] 126)) wn.heap.size _ 0 [] KI O ⟨g,0,none⟩ jj aq ((s1.flatMap gw)) O Lu (fun q u hu=>(Qz.cell (p:=(⟨g,0,none⟩:Addr).add q) iB).trans (eo.out q u hu)) (mR ux s1) J J fg ?_;intro v5 w5 aL b8 fh;have bv:Below wn.heap.size wn w5:=Below.grown (Qz) b8 fg (fun q hq=>(KI.lt q hq).1);refine hK _ _ bv ?_;try simp only [Act.put,pz]
   clear hK K;refine bP 9 O U' O (fun K hK=>?_);go_simp;refine hK _ _ (ak bv (.cells #[.string y.key,.string y.value,.int .i64 y.ao] 126)) ?_;try simp only [Act.put,pz]
   clear hK K;have cC:=ak bv (.cells #[.string y.key,.string y.value,.int .i64 y.ao] 126);refine bP 10 O U' O (fun K hK=>?_);refine qQ pQ _ _ O (w5.alloc (.cells #[.string y.key,.string y.value,.int .i64 y.ao] 126)) wn.heap.size v5 _ _ (mG aL (ak (aj _) _)) O ⟨w5.heap.size,0,none⟩ 1 1 [.string y.key,.string y.value,.int .i64 y.ao] O O (DI w5 126 [.string y.key,.string y.value,.int .i64 y.ao] w5.heap.size rfl) (ux y) J J fo ?_;exact tt
  ·go_simp;refine hK _ _ (ak Qz (.cells #[.string y.key,.string y.value,.int .i64 y.ao] 126)) ?_;try simp only [Act.put,pz]
   clear hK K;have cC:=ak Qz (.cells #[.string y.key,.string y.value,.int .i64 y.ao] 126);replace KI:=mG KI (ak (aj _) (.cells #[.string y.key,.string y.value,.int .i64 y.ao] 126));refine bP 4 O U' O (fun K hK=>?_);refine qQ pQ _ _ O ((wn.drew.alloc (.cells #[] 126)).alloc (.cells #[.string y.key,.string y.value,.int .i64 y.ao] 126)) wn.heap.size _ 0 [] KI O ⟨g,0,none⟩ jj aq ((s1.flatMap gw)) O Lu (fun q u hu=>(cC.cell (p:=(⟨g,0,none⟩:Addr).add q) iB).trans (eo.out q u hu)) (mR ux s1) J J fo ?_;intro v5 w5 aL b8 fh;have bv:Below wn.heap.size wn w5:=Below.grown (cC) b8 fo (fun q hq=>(KI.lt q hq).1);refine hK _ _ bv ?_;try simp only [Act.put,pz]
   clear hK K;refine bP 10 O U' O (fun K hK=>?_);refine qQ pQ _ _ O w5 wn.heap.size v5 _ _ aL O ⟨wn.heap.size+1,0,none⟩ 1 1 [.string y.key,.string y.value,.int .i64 y.ao] O O (fun q u hu=>(World.cell?_of_block sc).trans ((DI (wn.drew.alloc (.cells #[] 126)) 126 [.string y.key,.string y.value,.int .i64 y.ao] (wn.heap.size+1) S') q u hu)) (ux y) J J hJ ?_;exact lO
 ·go_simp;refine hK _ _ (ak aK (.cells #[.string y.key,.string y.value,.int .i64 y.ao] 126)) ?_;try simp only [Act.put,pz]
  clear hK K;have cC:=ak aK (.cells #[.string y.key,.string y.value,.int .i64 y.ao] 126);refine bP 0 O U' O (fun K hK=>?_);go_simp;refine hK _ _ (ak cC (.cells #[] 126)) ?_;try simp only [Act.put,pz]
  clear hK K;have Qz:=ak cC (.cells #[] 126);have KI:=vP (D9 (wn.drew.alloc (.cells #[.string y.key,.string y.value,.int .i64 y.ao] 126)) 126 3 (wn.heap.size+1) S') (B':=wn.heap.size) J;refine bP 4 O U' O (fun K hK=>?_);refine qQ pQ _ _ O ((wn.drew.alloc (.cells #[.string y.key,.string y.value,.int .i64 y.ao] 126)).alloc (.cells #[] 126)) wn.heap.size _ 0 [] KI O ⟨g,0,none⟩ jj aq ((s1.flatMap gw)) O Lu (fun q u hu=>(Qz.cell (p:=(⟨g,0,none⟩:Addr).add q) iB).trans (eo.out q u hu)) (mR ux s1) J J fg ?_;intro v5 w5 aL b8 fh;have bv:Below wn.heap.size wn w5:=Below.grown (Qz) b8 fg (fun q hq=>(KI.lt q hq).1);refine hK _ _ bv ?_;try simp only [Act.put,pz]
  clear hK K;refine bP 10 O U' O (fun K hK=>?_);refine qQ pQ _ _ O w5 wn.heap.size v5 _ _ aL O ⟨wn.heap.size,0,none⟩ 1 1 [.string y.key,.string y.value,.int .i64 y.ao] O O (fun q u hu=>(World.cell?_of_block sd).trans ((DI wn.drew 126 [.string y.key,.string y.value,.int .i64 y.ao] wn.heap.size rfl) q u hu)) (ux y) J J hJ ?_
  exact lO):P:=h
theorem D' {P:Prop} (h:P:=by
 intro HK;have aK:Below wn.heap.size wn wn.drew:=aA (aj _);refine aX 1 _ O U' H' aK W' ?_;try simp only [Act.put,pz]
 refine aX 2 _ O U' H' aK W' ?_;try simp only [Act.put,pz]
 refine aX 3 _ O U' H' aK W' ?_;try simp only [Act.put,pz]
 refine aX 5 _ O U' H' aK W' ?_;try simp only [Act.put,pz]
 refine aX 6 _ O U' H' aK W' ?_;try simp only [Act.put,pz]
 refine aX 7 _ O U' H' aK W' ?_;try simp only [Act.put,pz]
 refine aX 8 _ O U' H' aK W' ?_;try simp only [Act.put,pz]
 refine D7 0 9 O O U' O O (fun K hK=>?_) (fun K hK=>?_)
 ·go_simp;refine hK _ _ (ak aK (.cells #[] 67)) ?_;try simp only [Act.put,pz]
  clear hK K;have Qz:=ak aK (.cells #[] 67);have KI:=D9 wn.drew 67 2 wn.heap.size rfl;refine D7 4 9 O O U' O O (fun K hK=>?_) (fun K hK=>?_)
  ·refine qQ kk _ _ O (wn.drew.alloc (.cells #[] 67)) wn.heap.size _ 0 [] KI O ⟨g,0,none⟩ jj aq ((s1.flatMap gO)) O Lv (fun q u hu=>(Qz.cell (p:=(⟨g,0,none⟩:Addr).add q) iB).trans (eo.out q u hu)) (mR uy s1) J J fg ?_;intro v5 w5 aL b8 fh;have bv:Below wn.heap.size wn w5:=Below.grown (Qz) b8 fg (fun q hq=>(KI.lt q hq).1);refine hK _ _ bv ?_;try simp only [Act.put,pz]
   clear hK K;refine bP 9 O U' O (fun K hK=>?_);go_simp;refine hK _ _ (ak bv (.cells #[.string y.key,.string y.value] 67)) ?_;try simp only [Act.put,pz]
   clear hK K;have cC:=ak bv (.cells #[.string y.key,.string y.value] 67);refine bP 10 O U' O (fun K hK=>?_);refine qQ kk _ _ O (w5.alloc (.cells #[.string y.key,.string y.value] 67)) wn.heap.size v5 _ _ (mG aL (ak (aj _) _)) O ⟨w5.heap.size,0,none⟩ 1 1 [.string y.key,.string y.value] O O (DI w5 67 [.string y.key,.string y.value] w5.heap.size rfl) (uy y) J J fo ?_;exact tt
  ·go_simp;refine hK _ _ (ak Qz (.cells #[.string y.key,.string y.value] 67)) ?_;try simp only [Act.put,pz]
   clear hK K;have cC:=ak Qz (.cells #[.string y.key,.string y.value] 67);replace KI:=mG KI (ak (aj _) (.cells #[.string y.key,.string y.value] 67));refine bP 4 O U' O (fun K hK=>?_);refine qQ kk _ _ O ((wn.drew.alloc (.cells #[] 67)).alloc (.cells #[.string y.key,.string y.value] 67)) wn.heap.size _ 0 [] KI O ⟨g,0,none⟩ jj aq ((s1.flatMap gO)) O Lv (fun q u hu=>(cC.cell (p:=(⟨g,0,none⟩:Addr).add q) iB).trans (eo.out q u hu)) (mR uy s1) J J fo ?_;intro v5 w5 aL b8 fh;have bv:Below wn.heap.size wn w5:=Below.grown (cC) b8 fo (fun q hq=>(KI.lt q hq).1);refine hK _ _ bv ?_;try simp only [Act.put,pz]
   clear hK K;refine bP 10 O U' O (fun K hK=>?_);refine qQ kk _ _ O w5 wn.heap.size v5 _ _ aL O ⟨wn.heap.size+1,0,none⟩ 1 1 [.string y.key,.string y.value] O O (fun q u hu=>(World.cell?_of_block sc).trans ((DI (wn.drew.alloc (.cells #[] 67)) 67 [.string y.key,.string y.value] (wn.heap.size+1) S') q u hu)) (uy y) J J hJ ?_;exact lO
 ·go_simp;refine hK _ _ (ak aK (.cells #[.string y.key,.string y.value] 67)) ?_;try simp only [Act.put,pz]
  clear hK K;have cC:=ak aK (.cells #[.string y.key,.string y.value] 67);refine bP 0 O U' O (fun K hK=>?_);go_simp;refine hK _ _ (ak cC (.cells #[] 67)) ?_;try simp only [Act.put,pz]
  clear hK K;have Qz:=ak cC (.cells #[] 67);have KI:=vP (D9 (wn.drew.alloc (.cells #[.string y.key,.string y.value] 67)) 67 2 (wn.heap.size+1) S') (B':=wn.heap.size) J;refine bP 4 O U' O (fun K hK=>?_);refine qQ kk _ _ O ((wn.drew.alloc (.cells #[.string y.key,.string y.value] 67)).alloc (.cells #[] 67)) wn.heap.size _ 0 [] KI O ⟨g,0,none⟩ jj aq ((s1.flatMap gO)) O Lv (fun q u hu=>(Qz.cell (p:=(⟨g,0,none⟩:Addr).add q) iB).trans (eo.out q u hu)) (mR uy s1) J J fg ?_;intro v5 w5 aL b8 fh;have bv:Below wn.heap.size wn w5:=Below.grown (Qz) b8 fg (fun q hq=>(KI.lt q hq).1);refine hK _ _ bv ?_;try simp only [Act.put,pz]
  clear hK K;refine bP 10 O U' O (fun K hK=>?_);refine qQ kk _ _ O w5 wn.heap.size v5 _ _ aL O ⟨wn.heap.size,0,none⟩ 1 1 [.string y.key,.string y.value] O O (fun q u hu=>(World.cell?_of_block sd).trans ((DI wn.drew 67 [.string y.key,.string y.value] wn.heap.size rfl) q u hu)) (uy y) J J hJ ?_
  exact lO):P:=h
theorem Ea {P:Prop} (h:P:=by
 intro HK;have aK:Below wn.heap.size wn wn.drew:=aA (aj _);refine aX 1 _ O U' H' aK W' ?_;try simp only [Act.put,pz]
 refine aX 2 _ O U' H' aK W' ?_;try simp only [Act.put,pz]
 refine aX 3 _ O U' H' aK W' ?_;try simp only [Act.put,pz]
 refine aX 5 _ O U' H' aK W' ?_;try simp only [Act.put,pz]
 refine aX 6 _ O U' H' aK W' ?_;try simp only [Act.put,pz]
 refine aX 7 _ O U' H' aK W' ?_;try simp only [Act.put,pz]
 refine aX 8 _ O U' H' aK W' ?_;try simp only [Act.put,pz]
 refine D7 0 9 O O U' O O (fun K hK=>?_) (fun K hK=>?_)
 ·go_simp;refine hK _ _ (ak aK (.cells #[] 9)) ?_;try simp only [Act.put,pz]
  clear hK K;have Qz:=ak aK (.cells #[] 9);have KI:=D9 wn.drew 9 1 wn.heap.size rfl;refine D7 4 9 O O U' O O (fun K hK=>?_) (fun K hK=>?_)
  ·refine qQ qw _ _ O (wn.drew.alloc (.cells #[] 9)) wn.heap.size _ 0 [] KI O ⟨g,0,none⟩ jj aq (((s1).map Value.string)) O ue (fun q u hu=>(Qz.cell (p:=(⟨g,0,none⟩:Addr).add q) iB).trans (eo.out q u hu)) (fun u hu=>by obtain ⟨z0,_,rfl⟩:=List.mem_map.1 hu;rfl) J J fg ?_;intro v5 w5 aL b8 fh;have bv:Below wn.heap.size wn w5:=Below.grown (Qz) b8 fg (fun q hq=>(KI.lt q hq).1);refine hK _ _ bv ?_;try simp only [Act.put,pz]
   clear hK K;refine bP 9 O U' O (fun K hK=>?_);go_simp;refine hK _ _ (ak bv (.cells #[.string y] 9)) ?_;try simp only [Act.put,pz]
   clear hK K;have cC:=ak bv (.cells #[.string y] 9);refine bP 10 O U' O (fun K hK=>?_);refine qQ qw _ _ O (w5.alloc (.cells #[.string y] 9)) wn.heap.size v5 _ _ (mG aL (ak (aj _) _)) O ⟨w5.heap.size,0,none⟩ 1 1 [.string y] O O (DI w5 9 [.string y] w5.heap.size rfl) (fun u hu=>by rw [List.mem_singleton.1 hu];rfl) J J fo ?_;exact tt
  ·go_simp;refine hK _ _ (ak Qz (.cells #[.string y] 9)) ?_;try simp only [Act.put,pz]
   clear hK K;have cC:=ak Qz (.cells #[.string y] 9);replace KI:=mG KI (ak (aj _) (.cells #[.string y] 9));refine bP 4 O U' O (fun K hK=>?_);refine qQ qw _ _ O ((wn.drew.alloc (.cells #[] 9)).alloc (.cells #[.string y] 9)) wn.heap.size _ 0 [] KI O ⟨g,0,none⟩ jj aq (((s1).map Value.string)) O ue (fun q u hu=>(cC.cell (p:=(⟨g,0,none⟩:Addr).add q) iB).trans (eo.out q u hu)) (fun u hu=>by obtain ⟨z0,_,rfl⟩:=List.mem_map.1 hu;rfl) J J fo ?_;intro v5 w5 aL b8 fh;have bv:Below wn.heap.size wn w5:=Below.grown (cC) b8 fo (fun q hq=>(KI.lt q hq).1);refine hK _ _ bv ?_;try simp only [Act.put,pz]
   clear hK K;refine bP 10 O U' O (fun K hK=>?_);refine qQ qw _ _ O w5 wn.heap.size v5 _ _ aL O ⟨wn.heap.size+1,0,none⟩ 1 1 [.string y] O O (fun q u hu=>(World.cell?_of_block sc).trans ((DI (wn.drew.alloc (.cells #[] 9)) 9 [.string y] (wn.heap.size+1) S') q u hu)) (fun u hu=>by rw [List.mem_singleton.1 hu];rfl) J J hJ ?_;exact lO
 ·go_simp;refine hK _ _ (ak aK (.cells #[.string y] 9)) ?_;try simp only [Act.put,pz]
  clear hK K;have cC:=ak aK (.cells #[.string y] 9);refine bP 0 O U' O (fun K hK=>?_);go_simp;refine hK _ _ (ak cC (.cells #[] 9)) ?_;try simp only [Act.put,pz]
  clear hK K;have Qz:=ak cC (.cells #[] 9);have KI:=vP (D9 (wn.drew.alloc (.cells #[.string y] 9)) 9 1 (wn.heap.size+1) S') (B':=wn.heap.size) J;refine bP 4 O U' O (fun K hK=>?_);refine qQ qw _ _ O ((wn.drew.alloc (.cells #[.string y] 9)).alloc (.cells #[] 9)) wn.heap.size _ 0 [] KI O ⟨g,0,none⟩ jj aq (((s1).map Value.string)) O ue (fun q u hu=>(Qz.cell (p:=(⟨g,0,none⟩:Addr).add q) iB).trans (eo.out q u hu)) (fun u hu=>by obtain ⟨z0,_,rfl⟩:=List.mem_map.1 hu;rfl) J J fg ?_;intro v5 w5 aL b8 fh;have bv:Below wn.heap.size wn w5:=Below.grown (Qz) b8 fg (fun q hq=>(KI.lt q hq).1);refine hK _ _ bv ?_;try simp only [Act.put,pz]
  clear hK K;refine bP 10 O U' O (fun K hK=>?_);refine qQ qw _ _ O w5 wn.heap.size v5 _ _ aL O ⟨wn.heap.size,0,none⟩ 1 1 [.string y] O O (fun q u hu=>(World.cell?_of_block sd).trans ((DI wn.drew 9 [.string y] wn.heap.size rfl) q u hu)) (fun u hu=>by rw [List.mem_singleton.1 hu];rfl) J J hJ ?_
  exact lO):P:=h
theorem Ef {P:Prop} (h:P:=by
 go_wp2_with fail
 refine (gK x _ _ nm _ (aJ h bJ) cA).mono ?_;rw [HI.out];rintro e w2 ⟨rfl,ar⟩;obtain ⟨cq,cL⟩:=ay ar;have cw:w.heap.size < w2.heap.size:=(sq ar.size);have ke:w.heap.size+1 < w2.heap.size:=(sq ar.size);have eM:Below w.heap.size w w2:=bJ;go_wp2_with fail
 refine (iQ x _ _ nm _ (aJ h bJ) vk).mono ?_
 exact Lc):P:=h
theorem Eg {P:Prop} (h:P:=by
 try simp only [Bool.and_false,Bool.and_true,Bool.false_and,Bool.and_self] at hp
 have HF:=I (dW ax hp);clear hp;go_wp2_with fail
 refine aF _ U' U' (aj _) ?_
 repeat ((first | refine aG O ?_ | refine aH _ O Ch ?_);simp only [Act.put,pz])
 refine aN ?_;intro wn Z;replace Z:=Z.out;obtain ⟨lP,mL⟩:=ay Z;have kA:w.heap.size < wn.heap.size:=sq Z.size;have se:b' < wn.heap.size:=sq Z.size;try (have sJ:wr.heap.size < wn.heap.size:=sq Z.size)
 exact ej):P:=h
theorem vE {P:Prop} (h:P:=by
 refine hK _ _ bC ?_;try simp only [Act.put,pz]
 clear hK K;refine bP 11 O U' O (fun K hK=>?_);go_simp;refine hK _ _ bC ?_;try simp only [Act.put,pz]
 clear hK K;refine nR U' ?_
 exact HK _ _ ⟨g9,p9,_,_,_,_,_,_,_,_,_,_,uo,bC,nK⟩):P:=h
theorem xb {P:Prop} (h:P:=by
 rw [HF.out];first | refine ⟨[.slice dG x.aa.length bV,.slice dS x.V.length dJ,.int .i64 x.next,.int .i64 x.weights.pack,.int .i64 x.weights.af,.int .i64 x.weights.an],G1,rfl,?_,?_⟩ | refine ⟨[.slice dG x.aa.length bV,.slice dS x.V.length dJ,.int .i64 x.next,.int .i64 x.weights.pack,.int .i64 x.weights.af,.int .i64 x.weights.an],rfl,⟨G1,?_⟩,?_⟩
 ·try dsimp only
  refine am.mono (B:=w.heap.size+1+1+1) ?_ J;exact Ak
 ·exact pI):P:=h
theorem Cz {P:Prop} (h:P:=by
 have RZ:=I bI;clear jX bI h h';go_wp2_with fail
 try dsimp only
 iterate 60 (first | go_step | skip)
 refine bodyPost_ret (v:=.tuple #[.agg #[.slice dG x.aa.length bV,.slice dS x.V.length dJ,.int .i64 x.next,.int .i64 x.weights.pack,.int .i64 x.weights.af,.int .i64 x.weights.an],.int .i64 1]) (by simp [results,Tryz.results109,go_sem, *]) rfl ?_;rw [HF.out]
 first
  | refine ⟨[.slice dG x.aa.length bV,.slice dS x.V.length dJ,.int .i64 x.next,.int .i64 x.weights.pack,.int .i64 x.weights.af,.int .i64 x.weights.an],G1,rfl,?_,?_⟩
  | refine ⟨[.slice dG x.aa.length bV,.slice dS x.V.length dJ,.int .i64 x.next,.int .i64 x.weights.pack,.int .i64 x.weights.af,.int .i64 x.weights.an],rfl,⟨G1,?_⟩,?_⟩
 ·try dsimp only
  refine am.mono (B:=w.heap.size+1+1+1) ?_ J;exact PL
 ·exact pI):P:=h
theorem vG {P:Prop} (h:P:=by
 refine hK _ _ bC ?_;try simp only [Act.put,pz]
 clear hK K;refine bP 12 O U' O (fun K hK=>?_);go_simp;refine hK _ _ bC ?_;try simp only [Act.put,pz]
 clear hK K;refine nR U' ?_
 exact HK _ _ ⟨g9,p9,_,_,_,_,_,_,_,_,_,_,_,uo,bC,nK⟩):P:=h
theorem vQ {P:Prop} (h:P:=by
 refine hK _ _ bC ?_;try simp only [Act.put,pz]
 clear hK K;refine bP 9 O U' O (fun K hK=>?_);go_simp;refine hK _ _ bC ?_;try simp only [Act.put,pz]
 clear hK K;refine nR U' ?_
 exact HK _ _ ⟨g9,p9,_,_,_,_,_,_,_,_,uo,bC,nK⟩):P:=h
theorem BP {P:Prop} (h:P:=by
 intro wq hq;have ee:=(aB hq).1;have lJ:=(aB hq).2;go_simp
 first
  | exact ⟨hq,rfl⟩
  | exact ⟨aQ hq _,rfl⟩
  | (first | (refine (wM x.V[j+1].aS _ _ _ (aJ ku AF) e'.ns e'.ll e'.ls e'.nl e'.P' e'.tl e'.ts).mono ?_;rw [H1.out];rintro e w2 ⟨rfl,ar⟩;exact ⟨rfl,aI hq ar⟩) | (refine (kH x.V[j+1].seq 1 (x.next - 1) _).mono ?_;rw [LQ.out];rintro e w2 ⟨rfl,rfl⟩;exact ⟨rfl,hq⟩) | (refine (gQ x _ _ x.V[j+1].on _ (aJ h AF) NV.out).mono ?_;rw [Hg.out];rintro e w2 ⟨rfl,ar⟩;exact ⟨rfl,aI hq ar⟩))
  | (simp only [↓IntWalk.iteOmega];exact ⟨hq,rfl⟩)):P:=h
theorem Cg {P:Prop} (h:P:=by
 intro wq hq;have ee:=(aB hq).1;have lJ:=(aB hq).2;go_simp
 first
  | exact ⟨hq,rfl⟩
  | exact ⟨aQ hq _,rfl⟩
  | (first | (refine (wM x.V[0].aS _ _ _ (aJ ku AF) e'.ns e'.ll e'.ls e'.nl e'.P' e'.tl e'.ts).mono ?_;rw [H1.out];rintro e w2 ⟨rfl,ar⟩;exact ⟨rfl,aI hq ar⟩) | (refine (kH x.V[0].seq 1 (x.next - 1) _).mono ?_;rw [LQ.out];rintro e w2 ⟨rfl,rfl⟩;exact ⟨rfl,hq⟩) | (refine (gQ x _ _ x.V[0].on _ (aJ h AF) NV.out).mono ?_;rw [Hg.out];rintro e w2 ⟨rfl,ar⟩;exact ⟨rfl,aI hq ar⟩))
  | (simp only [↓IntWalk.iteOmega];exact ⟨hq,rfl⟩)):P:=h
theorem BY {P:Prop} (h:P:=by
 refine hK _ _ bC ?_;try simp only [Act.put,pz]
 clear hK K;refine bP 8 O U' O (fun K hK=>?_);go_simp;refine hK _ _ bC ?_;try simp only [Act.put,pz]
 clear hK K;refine nR U' ?_
 exact HK _ _ ⟨g9,p9,_,_,_,_,_,_,_,uo,bC,nK⟩):P:=h
theorem vM {P:Prop} (h:P:=by
 intro wq hq;have ee:=(aB hq).1;have lJ:=(aB hq).2;go_simp
 first
  | exact ⟨hq,rfl⟩
  | exact ⟨aQ hq _,rfl⟩
  | (fail)
  | (simp only [↓IntWalk.iteOmega];exact ⟨hq,rfl⟩)):P:=h
theorem Eh {P:Prop} (h:P:=by
 go_wp2_with fail
 refine aF wr U' U' (aj _) ?_
 repeat ((first | refine aG O ?_ | refine aH _ O xf ?_);simp only [Act.put,pz])
 exact s8):P:=h
theorem x2 {P:Prop} (h:P:=by
 refine ⟨⟨k+1,g8,p8,J,N',rfl,?_,?_⟩,by simp [intOf];omega⟩
 ·rw [Jf.out,HI.out];have:=vP Le (B':=w1.heap.size) lw.out.size;exact xr
 ·exact pL):P:=h
theorem Ei {P:Prop} (h:P:=by
 go_wp2_with fail
 refine aF wr U' U' (aj _) ?_
 repeat ((first | refine aG O ?_ | refine aH _ O dz ?_);simp only [Act.put,pz])
 exact s8):P:=h
theorem B7 {P:Prop} (h:P:=by
 intro wq hq;have ee:=(aB hq).1;have lJ:=(aB hq).2;go_simp
 first
  | exact ⟨hq,rfl⟩
  | exact ⟨aQ hq _,rfl⟩
  | (refine (rO x.aa[j+1] _ _ _ (aJ hr3 AF) e'.ns e'.ll e'.ls e'.tl e'.ts).mono ?_;rw [H1.out];rintro e w6 ⟨rfl,cS⟩;exact ⟨rfl,aI hq cS⟩)
  | (simp only [↓IntWalk.iteOmega];exact ⟨hq,rfl⟩)):P:=h
theorem B9 {P:Prop} (h:P:=by
 intro wq hq;have ee:=(aB hq).1;have lJ:=(aB hq).2;go_simp
 first
  | exact ⟨hq,rfl⟩
  | exact ⟨aQ hq _,rfl⟩
  | (refine (rO x.aa[0] _ _ _ (aJ hr3 AF) e'.ns e'.ll e'.ls e'.tl e'.ts).mono ?_;rw [H1.out];rintro e w6 ⟨rfl,cS⟩;exact ⟨rfl,aI hq cS⟩)
  | (simp only [↓IntWalk.iteOmega];exact ⟨hq,rfl⟩)):P:=h
theorem Ej {P:Prop} (h:P:=by
 clear hs;go_wp2_with fail
 refine aF wr U' U' (aj _) ?_
 repeat ((first | refine aG O ?_ | refine aH _ O dz ?_);simp only [Act.put,pz])
 exact Ls):P:=h
theorem CK {P:Prop} (h:P:=by
 clear cS eE kC hT;dsimp only at *;cases b
 ·go_wp2;exact ⟨⟨xs,A',c',G,k+1,rfl,N',J,nJ.out,Du,fj.out,iC.out,PP⟩,by simp only [intOf];omega⟩
 ·go_wp2
  exact ⟨⟨u,A6,c6,G6,k+1,rfl,N',J,iD.out,I (jS.out rfl),fj.out,iC.out,I ((Jg.out rfl).mono J)⟩,by simp only [intOf];omega⟩):P:=h
theorem Cw {P:Prop} (h:P:=by
 rw [HF.out];refine ⟨[.slice dG x.aa.length bV,.slice dS x.V.length dJ,.int .i64 x.next,.int .i64 x.weights.pack,.int .i64 x.weights.af,.int .i64 x.weights.an],G1,rfl,?_,?_⟩
 ·try dsimp only
  refine am.mono (B:=w.heap.size+1+1+1) ?_ J;exact Ak
 ·exact pI):P:=h
theorem Ek {P:Prop} (h:P:=by
 intro v7 w7 nK Ua lp;rw [show 0+0 = 0 by omega,List.nil_append] at nK;obtain ⟨g9,p9,hv7,fI,kz,jH⟩:=wW nK J;subst hv7;have bC:Below wn.heap.size wn w7:=Below.grown (bv) Ua hJ (fun q hq=>(aL.lt q hq).1)
 exact Cu):P:=h
theorem El {P:Prop} (h:P:=by
 intro v7 w7 nK Ua lp;rw [show 0+0 = 0 by omega,List.nil_append] at nK;obtain ⟨g9,p9,hv7,fI,kz,jH⟩:=wW nK J;subst hv7;have bC:Below wn.heap.size wn w7:=Below.grown (bv) Ua hJ (fun q hq=>(aL.lt q hq).1)
 exact Ct):P:=h
theorem En {P:Prop} (h:P:=by
 cases he2:GX b p.mem with
 | none =>rw [show qG b p.mem = 9223372036854775807 by unfold qG;rw [he2];rfl] at iY lz;exact BS
 | some s2 =>
   rw [show qG b p.mem = s2 by unfold qG;rw [he2];rfl] at iY lz
   exact BS):P:=h
theorem Cd {P:Prop} (h:P:=by
 rw [HU.out];rintro e w3 ⟨rfl,bb⟩;obtain ⟨dm,hf3⟩:=ay bb;have cU:w.heap.size < w3.heap.size:=(sq bb.size);have ui:w.heap.size+1 < w3.heap.size:=(sq bb.size);have dX:Below w.heap.size w w3:=ah eM bb;go_wp2;go_ret
 exact ⟨by rw [HF.out];rfl,bJ⟩):P:=h
theorem Ca {P:Prop} (h:P:=by
 exact ⟨[.slice kM R.aa.length kN,.slice ny R.V.length nC,.int .i64 R.next,.int .i64 R.weights.pack,.int .i64 R.weights.af,.int .i64 R.weights.an],G,rfl,(HO.out.only OB (fun b X=>by have:=HO.out.base b X;omega)).mono (B':=w.heap.size) J,As ar OB J⟩):P:=h
theorem xl {P:Prop} (h:P:=by
 have hj:=(List.getElem?_eq_some_iff.1 hu).1;rw [← ht,List.getElem?_take] at hu;split at hu
 ·simpa using hu
 ·cases hu):P:=h
theorem Ep {P:Prop} (h:P:=by
 refine ⟨⟨k+1,N+1,g8,p8,J,J,N',rfl,I ?_,?_,?_⟩,by simp [intOf];omega⟩
 ·exact th
 ·rw [Jf.out,HI.out];have:=vP Le (B':=w.heap.size) lw.out.size;exact xr
 ·exact pL):P:=h
theorem sL {P:Prop} (h:P:=by
 go_wp2;go_ret
 exact ⟨by rw [HF.out];rfl,bJ⟩):P:=h
theorem Er {P:Prop} (h:P:=by
 try simp only [Bool.and_false,Bool.and_true,Bool.false_and,Bool.and_self] at hp
 have HF:=I (jP ax hp);clear hp
 exact vZ):P:=h
theorem s7 {P:Prop} (h:P:=by
 try dsimp only
 refine am.mono (B:=w.heap.size+1+1+1) ?_ J
 exact Vq):P:=h
theorem x3 {P:Prop} (h:P:=by
 have uu:=I hr;clear hr;go_wp2_with fail
 refine jS.out.mono ?_
 exact CW):P:=h
theorem xy {P:Prop} (h:P:=by
 rw [World.cell?_of_block (heap_alloc_old _ _ S'),cell_of_row _ _ _ _ _ _ (heap_alloc_new w _)];rfl):P:=h
theorem Eu {P:Prop} (h:P:=by
 have HA:=I h;go_enter Tryz.func57,Tryz.ntmps57;go_wp2_with fail
 refine (J9 a b _ ha X).mono ?_;rw [HA.out];rintro e w2 ⟨rfl,ar⟩
 exact ej):P:=h
theorem Ev {P:Prop} (h:P:=by
 refine ⟨⟨k+1,N+1,g8,p8,J,J,N',rfl,I ?_,?_,?_⟩,by simp [intOf];omega⟩
 ·exact th
 ·exact Ln
 ·exact pL):P:=h
theorem Ew {P:Prop} (h:P:=by
 refine ⟨⟨k+1,N+1,g8,p8,J,J,N',rfl,I ?_,?_,?_⟩,by simp [intOf];omega⟩
 ·exact th
 ·exact Lo
 ·exact pL):P:=h
theorem Ex {P:Prop} (h:P:=by
 refine ⟨⟨k+1,N+1,g8,p8,J,J,N',rfl,I ?_,?_,?_⟩,by simp [intOf];omega⟩
 ·exact th
 ·exact Lp
 ·exact pL):P:=h
theorem Ey {P:Prop} (h:P:=by
 obtain ⟨R,cd⟩:=RR;dsimp only at HS ⊢;go_enter Tryz.func66,Tryz.ntmps66;go_wp2_with fail
 refine (HS.out _ _ _ (aZ h b5)).mono ?_
 exact vR):P:=h
theorem Ez {P:Prop} (h:P:=by
 refine aN ?_;intro wn Z;replace Z:=Z.out;simp only [HQ.out]
 exact De):P:=h
theorem EA {P:Prop} (h:P:=by
 have HF:=I (show oH nm x p = 4 by rw [Aw.out,if_neg (by simp [hS]),if_neg hu,if_neg (by simp [gc]),if_pos cL])
 exact we):P:=h
theorem CN {P:Prop} (h:P:=by
 rcases Nat.lt_or_ge j k with h9 | h9
 ·exact HW40.out j hj h9
 ·have:j = k:=by omega
  subst this;exact hv40):P:=h
theorem EB {P:Prop} (h:P:=by
 rw [AG.out];have:=vP Le (B':=w.heap.size+1) (by have:=eN.out.size;have:=ju.out.size;omega)
 exact xr):P:=h
theorem EC {P:Prop} (h:P:=by
 by_cases hc:aq = jj
 ·exact tj
 ·exact ⟨⟨g,jj,none⟩,by simp [hc],rfl,fun q u hu=>by simp at hu⟩):P:=h
theorem wg {P:Prop} (h:P:=by
 go_wp2;go_ret
 exact ⟨by rw [HF.out];first | rfl | simp,bJ⟩):P:=h
theorem CS {P:Prop} (h:P:=by
 rcases Nat.lt_or_ge g w.heap.size with ax | nP
 ·exact ax
 ·rw [Array.getElem?_eq_none nP] at hh;cases hh):P:=h
theorem x4 {P:Prop} (h:P:=by
 clear hs;go_enter Tryz.func100,Tryz.ntmps100
 exact vX):P:=h
theorem x5 {P:Prop} (h:P:=by
 clear hs;go_enter Tryz.func101,Tryz.ntmps101
 exact vX):P:=h
theorem ED {P:Prop} (h:P:=by
 have h4:(x.equal == y.equal) = true:=by simp [h3]
 go_enter Tryz.func79,Tryz.ntmps79
 exact lV):P:=h
theorem CT {P:Prop} (h:P:=by
 intro b ek;rcases List.mem_cons.1 ek with rfl | ek
 ·exact ⟨dx,e,hh⟩
 ·exact h.plain b ek):P:=h
theorem x6 {P:Prop} (h:P:=by
 clear hs;go_enter Tryz.func82,Tryz.ntmps82
 exact vX):P:=h
theorem BR {P:Prop} (h:P:=by
 unfold ed;rw [List.any_eq_false];intro u hu;have:=HQ.out u hu
 simp [this]):P:=h
theorem tt {P:Prop} (h:P:=by
 intro v7 w7 nK Ua lp;rw [show 0+jj = jj by omega,List.nil_append] at nK;obtain ⟨g9,p9,hv7,fI,kz,jH⟩:=wW nK J;subst hv7;have bC:Below wn.heap.size wn w7:=Below.grown (cC) Ua fo (fun q hq=>(aL.lt q hq).1)
 exact K7):P:=h
theorem vF {P:Prop} (h:P:=by
 intro v7 w7 nK Ua lp;rw [show 0+jj = jj by omega,List.nil_append] at nK;obtain ⟨g9,p9,hv7,fI,kz,jH⟩:=wW nK J;subst hv7;have bC:Below wn.heap.size wn w7:=Below.grown (bv) Ua hJ (fun q hq=>(aL.lt q hq).1)
 exact vE):P:=h
theorem B6 {P:Prop} (h:P:=by
 intro v7 w7 nK Ua lp;rw [show 0+jj = jj by omega,List.nil_append] at nK;obtain ⟨g9,p9,hv7,fI,kz,jH⟩:=wW nK J;subst hv7;have bC:Below wn.heap.size wn w7:=Below.grown (bv) Ua hJ (fun q hq=>(aL.lt q hq).1)
 exact BY):P:=h
theorem BC {P:Prop} (h:P:=by
 intro v7 w7 nK Ua lp;rw [show 0+k = k by omega,List.nil_append] at nK;obtain ⟨g9,p9,hv7,fI,kz,jH⟩:=wW nK J;subst hv7;have bC:Below wn.heap.size wn w7:=Below.grown (bv) Ua hJ (fun q hq=>(aL.lt q hq).1)
 exact vG):P:=h
theorem BV {P:Prop} (h:P:=by
 intro v7 w7 nK Ua lp;rw [show 0+k = k by omega,List.nil_append] at nK;obtain ⟨g9,p9,hv7,fI,kz,jH⟩:=wW nK J;subst hv7;have bC:Below wn.heap.size wn w7:=Below.grown (bv) Ua hJ (fun q hq=>(aL.lt q hq).1)
 exact vQ):P:=h
theorem x7 {P:Prop} (h:P:=by
 clear hs;go_enter Tryz.func24,Tryz.ntmps24
 exact Ef):P:=h
theorem x8 {P:Prop} (h:P:=by
 clear hs;go_enter Tryz.func25,Tryz.ntmps25
 exact Ef):P:=h
theorem I2 (S:Nat) {w:World} {b o k:Nat} {a0 a1:Value} {r:List Value} (h:∀(j:Nat) (u:Value),(a0::a1::r)[j]? = some u→w.cell? ⟨b,o+(k * S+j),none⟩ = some u):w.cell? ⟨b,o+k * S,none⟩ = some a0∧w.cell? ⟨b,o+k * S+1,none⟩ = some a1:=⟨h 0 _ rfl,by rw [Nat.add_assoc];exact h 1 _ rfl⟩
theorem pS (S:Nat) {w:World} {b o k:Nat} {a0 a1 a2:Value} {r:List Value} (h:∀(j:Nat) (u:Value),(a0::a1::a2::r)[j]? = some u→w.cell? ⟨b,o+(k * S+j),none⟩ = some u):w.cell? ⟨b,o+k * S,none⟩ = some a0∧w.cell? ⟨b,o+k * S+1,none⟩ = some a1∧w.cell? ⟨b,o+k * S+2,none⟩ = some a2:=⟨h 0 _ rfl,by rw [Nat.add_assoc];exact h 1 _ rfl,by rw [Nat.add_assoc];exact h 2 _ rfl⟩
theorem EE (S:Nat) {w:World} {b o k:Nat} {a0 a1 a2 a3:Value} {r:List Value} (h:∀(j:Nat) (u:Value),(a0::a1::a2::a3::r)[j]? = some u→w.cell? ⟨b,o+(k * S+j),none⟩ = some u):w.cell? ⟨b,o+k * S,none⟩ = some a0∧w.cell? ⟨b,o+k * S+1,none⟩ = some a1∧w.cell? ⟨b,o+k * S+2,none⟩ = some a2∧w.cell? ⟨b,o+k * S+3,none⟩ = some a3:=⟨h 0 _ rfl,by rw [Nat.add_assoc];exact h 1 _ rfl,by rw [Nat.add_assoc];exact h 2 _ rfl,by rw [Nat.add_assoc];exact h 3 _ rfl⟩
theorem oW (S:Nat) {w:World} {b o k:Nat} {a0 a1 a2 a3 a4 a5:Value} {r:List Value} (h:∀(j:Nat) (u:Value),(a0::a1::a2::a3::a4::a5::r)[j]? = some u→w.cell? ⟨b,o+(k * S+j),none⟩ = some u):w.cell? ⟨b,o+k * S,none⟩ = some a0∧w.cell? ⟨b,o+k * S+1,none⟩ = some a1∧w.cell? ⟨b,o+k * S+2,none⟩ = some a2∧w.cell? ⟨b,o+k * S+3,none⟩ = some a3∧w.cell? ⟨b,o+k * S+4,none⟩ = some a4∧w.cell? ⟨b,o+k * S+5,none⟩ = some a5:=⟨h 0 _ rfl,by rw [Nat.add_assoc];exact h 1 _ rfl,by rw [Nat.add_assoc];exact h 2 _ rfl,by rw [Nat.add_assoc];exact h 3 _ rfl,by rw [Nat.add_assoc];exact h 4 _ rfl,by rw [Nat.add_assoc];exact h 5 _ rfl⟩
theorem Qd (S:Nat) {w:World} {b o k:Nat} {a0 a1 a2 a3 a4 a5 a6:Value} {r:List Value} (h:∀(j:Nat) (u:Value),(a0::a1::a2::a3::a4::a5::a6::r)[j]? = some u→w.cell? ⟨b,o+(k * S+j),none⟩ = some u):w.cell? ⟨b,o+k * S,none⟩ = some a0∧w.cell? ⟨b,o+k * S+1,none⟩ = some a1∧w.cell? ⟨b,o+k * S+2,none⟩ = some a2∧w.cell? ⟨b,o+k * S+3,none⟩ = some a3∧w.cell? ⟨b,o+k * S+4,none⟩ = some a4∧w.cell? ⟨b,o+k * S+5,none⟩ = some a5∧w.cell? ⟨b,o+k * S+6,none⟩ = some a6:=⟨h 0 _ rfl,by rw [Nat.add_assoc];exact h 1 _ rfl,by rw [Nat.add_assoc];exact h 2 _ rfl,by rw [Nat.add_assoc];exact h 3 _ rfl,by rw [Nat.add_assoc];exact h 4 _ rfl,by rw [Nat.add_assoc];exact h 5 _ rfl,by rw [Nat.add_assoc];exact h 6 _ rfl⟩
theorem vL (S:Nat) {w:World} {b o k:Nat} {a0 a1 a2 a3 a4 a5 a6 a7 a8:Value} {r:List Value} (h:∀(j:Nat) (u:Value),(a0::a1::a2::a3::a4::a5::a6::a7::a8::r)[j]? = some u→w.cell? ⟨b,o+(k * S+j),none⟩ = some u):w.cell? ⟨b,o+k * S,none⟩ = some a0∧w.cell? ⟨b,o+k * S+1,none⟩ = some a1∧w.cell? ⟨b,o+k * S+2,none⟩ = some a2∧w.cell? ⟨b,o+k * S+3,none⟩ = some a3∧w.cell? ⟨b,o+k * S+4,none⟩ = some a4∧w.cell? ⟨b,o+k * S+5,none⟩ = some a5∧w.cell? ⟨b,o+k * S+6,none⟩ = some a6∧w.cell? ⟨b,o+k * S+7,none⟩ = some a7∧w.cell? ⟨b,o+k * S+8,none⟩ = some a8:=⟨h 0 _ rfl,by rw [Nat.add_assoc];exact h 1 _ rfl,by rw [Nat.add_assoc];exact h 2 _ rfl,by rw [Nat.add_assoc];exact h 3 _ rfl,by rw [Nat.add_assoc];exact h 4 _ rfl,by rw [Nat.add_assoc];exact h 5 _ rfl,by rw [Nat.add_assoc];exact h 6 _ rfl,by rw [Nat.add_assoc];exact h 7 _ rfl,by rw [Nat.add_assoc];exact h 8 _ rfl⟩
theorem r' {n:Nat} {w w':World} {p:Addr} {u:Value} (h:Below n w w') (k:w.cell? p = some u) (hp:p.block < n):w'.cell? p = some u:=(h.cell hp).trans k
theorem H' {P:Prop} (h:P:=by exact fun _ _ d _ _ h=>by cases d <;> exact h):P:=h
theorem W' {P:Prop} (h:P:=by refine Or.inl ⟨rfl,fun wq hq=>?_⟩;have ee:=(aB hq).1;go_simp;try rfl):P:=h
theorem sq {a b:Nat} (hs:a≤b) {P:Prop} (h:a≤b→P:=by intro this;(try simp at this);omega):P:=h hs
theorem pz:(∀{α:Type} (a:List α) (i:Nat) (v:α),a.toArray.setIfInBounds i v = (a.set i v).toArray)∧(∀{α:Type} (x y:α) (l:List α),(x :: l).set 0 y = y :: l)∧(∀{α:Type} (x y:α) (l:List α) (n:Nat),(x :: l).set (n+1) y = x :: l.set n y):=⟨fun _ _ _=>List.setIfInBounds_toArray ..,fun _ _ _=>rfl,fun _ _ _ _=>rfl⟩
theorem bJ {P:Prop} (h:P:=by repeat (first | with_reducible exact aj _ | with_reducible assumption | with_reducible refine ak ?_ _ | with_reducible refine ah ?_ (by assumption))) : P := h
theorem b5 {P:Prop} (h:P:=by repeat (first | with_reducible exact aj _ | with_reducible assumption | with_reducible refine ak ?_ _ | with_reducible refine aA ?_ | with_reducible refine ah ?_ (by assumption))) : P := h
theorem Qf {P:Prop} (h:P:=by first | exact hq | exact hq.out) : P := h
theorem AF {P:Prop} (h:P:=by repeat (first | with_reducible exact hq | with_reducible exact hq.out | with_reducible exact aj _ | with_reducible assumption | with_reducible refine ak ?_ _ | with_reducible refine ah ?_ Qf | with_reducible refine ah ?_ (by assumption))) : P := h
theorem bA {P:Prop} (h:P:=by dsimp only;omega) : P := h
theorem Qg {P:Prop} (h:P:=by decide +kernel) : P := h
theorem kD {P:Prop} (h:P:=by unfold maxLen;omega) : P := h
theorem eC {P:Prop} (h:P:=by simp [World.setCell]) : P := h
theorem ex {P:Prop} (h:P:=by simp [Value.oneCell']) : P := h
theorem oX {P:Prop} (h:P:=by first | exact aK | exact aj _) : P := h
theorem i6 {P:Prop} (h:P:=by first | rfl | (simp;rfl)) : P := h
theorem Vr {P:Prop} (h:P:=by unfold Func.isWrapper;first | (rw [if_pos Qg];kernel_rfl) | (rw [if_neg Qg];exact ⟨rfl,rfl⟩)) : P := h
theorem sf {P:Prop} (h:P:=by first | assumption | (unfold br;omega)) : P := h
theorem pI {P:Prop} (h:P:=by repeat (first | with_reducible exact aj _ | with_reducible assumption | with_reducible refine aC ?_ bA _ | with_reducible refine ak ?_ _ | with_reducible refine aA ?_ | with_reducible refine ah ?_ (by assumption))) : P := h
theorem uo {P:Prop} (h:P:=by simp only [Act.put,pz];rfl) : P := h
theorem Lw {P:Prop} (h:P:=by show w.heap.size+1+1 < _;omega) : P := h
theorem I3 {P:Prop} (h:P:=by intro e;have:=hr _ e.symm;omega) : P := h
theorem mw {P:Prop} (h:P:=by have:=gP.out;omega) : P := h
theorem PL {P:Prop} (h:P:=by repeat (first | with_reducible exact RZ.out | with_reducible refine am.setCell ?_ bA _)) : P := h
theorem AE {P:Prop} (h:P:=by first | exact hq | exact ah (ak (aj _) _) hq) : P := h
theorem km {P:Prop} (h:P:=by unfold br;omega) : P := h
theorem fg {P:Prop} (h:P:=by have:=(Qz).size;omega) : P := h
theorem fo {P:Prop} (h:P:=by have:=(cC).size;omega) : P := h
theorem hJ {P:Prop} (h:P:=by have:=(bv).size;omega) : P := h
theorem ue {P:Prop} (h:P:=by rw [List.length_map,HJ.out,Nat.mul_one]) : P := h
theorem Vs {P:Prop} (h:P:=by first | exact Nat.le_refl _ | (dsimp only;omega)) : P := h
theorem Lx {P:Prop} (h:P:=by dsimp only;have:=HS.out.lt;omega) : P := h
theorem I5 {P:Prop} (h:P:=by repeat (first | with_reducible exact b9 | with_reducible exact aj _ | with_reducible assumption | with_reducible refine ak ?_ _ | with_reducible refine ah ?_ (by assumption))) : P := h
theorem P0 {P:Prop} (h:P:=by first | exact ah b9 hq | exact ah (ak b9 _) hq | exact ah b9 hq.out | exact ah (ak b9 _) hq.out) : P := h
theorem Vt {P:Prop} (h:P:=by obtain ⟨d0,hs⟩:=fF hA;rw [hs];rfl) : P := h
theorem iB {P:Prop} (h:P:=by rw [Addr.add_lit];exact eO) : P := h
theorem Vu {P:Prop} (h:P:=by first | rfl | go_num) : P := h
theorem I6 {P:Prop} (h:P:=by dsimp only;first | omega | (have:=nQ.lt;omega)) : P := h
theorem Ly {P:Prop} (h:P:=by repeat (first | with_reducible exact HS.out.aD | with_reducible refine aC ?_ Vs _)) : P := h
theorem I7 {P:Prop} (h:P:=by first | exact hq | exact hq.out | exact ah (ak (aj _) _) hq) : P := h
theorem Lz {P:Prop} (h:P:=by simp [Value.ownBlock]) : P := h
theorem x9 {P:Prop} (h:P:=by have:=hF y hy;dsimp only;omega) : P := h
theorem Vv {P:Prop} (h:P:=by simpa using h) : P := h
theorem Vw {P:Prop} (h:P:=by first | exact Nat.le_refl _ | (simp [World.setCell];done) | (simp [World.setCell];omega)) : P := h
theorem LA {P:Prop} (h:P:=by dsimp only;first | omega | (have:=ya.lt;omega)) : P := h
theorem Vx {P:Prop} (h:P:=by have:=h.aD.size;omega) : P := h
theorem LB {P:Prop} (h:P:=by unfold lA;with_reducible exact (ak lW _)) : P := h
theorem Vy {P:Prop} (h:P:=by simpa using hi) : P := h
theorem Ao {P:Prop} (h:P:=by rw [HE.out];simp) : P := h
theorem LC {P:Prop} (h:P:=by rw [List.length_take];omega) : P := h
theorem Qh {P:Prop} (h:P:=by have:=aR.size;(try simp);omega) : P := h
theorem I8 {P:Prop} (h:P:=by have:=aR.size;simp;omega) : P := h
theorem yb {P:Prop} (h:P:=by rw [List.length_map,HJ.out];omega) : P := h
theorem kF {P:Prop} (h:P:=by have:=bC.size;omega) : P := h
theorem Qi {P:Prop} (h:P:=by have:=hg.size;simpa using this) : P := h
theorem Qj {P:Prop} (h:P:=by unfold j4;rw [dB,cR]) : P := h
theorem Vz {P:Prop} (h:P:=by unfold Em;rw [fl];simp) : P := h
theorem VA {P:Prop} (h:P:=by unfold Em;rw [gN];simp) : P := h
theorem VB {P:Prop} (h:P:=by unfold Em;simp [hh2]) : P := h
theorem VC {P:Prop} (h:P:=by unfold Em;simp [hh1]) : P := h
theorem Vf {P:Prop} (h:P:=by rw [sG ax,sK];rfl) : P := h
theorem Qk {P:Prop} (h:P:=by dsimp only;first | omega | (have:=nS.lt;omega)) : P := h
theorem Ql {P:Prop} (h:P:=by repeat (first | with_reducible exact fL.out | with_reducible refine am.setCell ?_ Lx _)) : P := h
theorem Qm {P:Prop} (h:P:=by repeat (first | with_reducible exact RZ.out | with_reducible refine am.setCell ?_ Lx _)) : P := h
theorem VE {P:Prop} (h:P:=by repeat (first | with_reducible exact HO.out | with_reducible refine am.setCell ?_ bA _)) : P := h
theorem I9 {P:Prop} (h:P:=by rw [HT.out,HM.out];exact pT.out) : P := h
theorem Ja {P:Prop} (h:P:=by rw [HT.out,HM.out];have:=pT.out;omega) : P := h
theorem LD {P:Prop} (h:P:=by unfold KF;rw [cW]) : P := h
theorem Jb {P:Prop} (h:P:=by rw [h] at hr;cases hr) : P := h
theorem Jc {P:Prop} (h:P:=by rw [cell_of_row _ _ _ _ _ _ (heap_alloc_new wr _)];rfl) : P := h
theorem Jd {P:Prop} (h:P:=by rw [List.length_map];exact hl) : P := h
theorem Je {P:Prop} (h:P:=by rw [YC ax HP.out];exact cb) : P := h
theorem Jn {P:Prop} (h:P:=by have:=bv.size;simp;omega) : P := h
theorem VF {P:Prop} (h:P:=by intro e;have:=hr _ e.symm;have:=hF y hy;omega) : P := h
theorem VG {P:Prop} (h:P:=by have:=aR.size;have:=bw.size;(try simp);omega) : P := h
theorem en {P:Prop} (h:P:=by first | exact mS | (dsimp only;omega)) : P := h
theorem sc {P:Prop} (h:P:=by rw [Addr.add_lit];exact b8.block (wn.heap.size+1) (by simp) Lz) : P := h
theorem sd {P:Prop} (h:P:=by rw [Addr.add_lit];exact (b8.block wn.heap.size (by simp;omega) Lz).trans (heap_alloc_old _ _ (by simp))) : P := h
theorem Vl {P:Prop} (h:P:=by have:=lw.out.size;have:=bC.size;omega) : P := h
theorem PI {P:Prop} (h:P:=by rw [List.length_append,HJ.out];rfl) : P := h
theorem Jp {P:Prop} (h:P:=by rw [List.length_map,mx.out,Nat.mul_one]) : P := h
theorem Ak {P:Prop} (h:P:=by repeat (first | with_reducible exact po.out | with_reducible refine am.setCell ?_ bA _)) : P := h
theorem Ab {P:Prop} (h:P:=by rw [List.length_take,gj];omega) : P := h
theorem Qn {P:Prop} (h:P:=by have:=HJ.out;omega) : P := h
theorem pZ {P:Prop} (h:P:=by first | exact lX | (dsimp only;omega)) : P := h
theorem Jq {P:Prop} (h:P:=by simpa using hk) : P := h
theorem PJ {P:Prop} (h:P:=by repeat (first | with_reducible exact hO | with_reducible refine am.setCell ?_ bA _)) : P := h
theorem PK {P:Prop} (h:P:=by repeat (first | with_reducible exact hB | with_reducible refine aC ?_ bA _)) : P := h
theorem CU {P:Prop} (h:P:=by rw [HR.out];simp) : P := h
theorem tu {P:Prop} (h:P:=by rw [List.getElem?_append_right Qn,show jj - s1.length = 0 by have:=HJ.out;omega];rfl) : P := h
theorem PQ {P:Prop} (h:P:=by repeat (first | with_reducible exact hO | with_reducible refine am.setCell ?_ bA _ | with_reducible refine am.alloc ?_ _)) : P := h
theorem PR {P:Prop} (h:P:=by repeat (first | with_reducible exact hB | with_reducible refine aC ?_ bA _ | with_reducible refine ak ?_ _)) : P := h
theorem IK {P:Prop} (h:P:=by repeat (first | with_reducible exact Ai.out.aD | with_reducible refine aC ?_ bA _)) : P := h
theorem Jr {P:Prop} (h:P:=by unfold br;dsimp only;omega) : P := h
theorem IP {P:Prop} (h:P:=by rw [cA];exact vP lv.out (B':=w.heap.size+1+1+1) (by omega)) : P := h
theorem Vq {P:Prop} (h:P:=by repeat (first | with_reducible exact ur.out | with_reducible refine am.setCell ?_ bA _ | with_reducible refine VJ ?_ oM.out)) : P := h
theorem Lv {P:Prop} (h:P:=by rw [kI (row:=gO) (S:=2) (fun _=>rfl),HJ.out]) : P := h
theorem K' {P:Prop} (h:P:=by rw [List.length_take,Js.out];omega) : P := h
theorem Lu {P:Prop} (h:P:=by rw [kI (row:=gw) (S:=3) (fun _=>rfl),HJ.out]) : P := h
theorem Lt {P:Prop} (h:P:=by rw [kI (row:=gh) (S:=4) (fun _=>rfl),HJ.out]) : P := h
theorem K6 {P:Prop} (h:P:=by simpa using h2) : P := h
theorem Jt {P:Prop} (h:P:=by rw [cT];exact cX) : P := h
theorem Ju {P:Prop} (h:P:=by have:=Qo.out;rw [HN.out] at this;exact this) : P := h
theorem Jv {P:Prop} (h:P:=by rw [List.length_drop,gj];omega) : P := h
theorem P3 {P:Prop} (h:P:=by rw [Jf.out,HI.out];exact di.out) : P := h
theorem Qp {P:Prop} (h:P:=by simp [World.setCell,Array.getElem?_modify,h]) : P := h
theorem LF {P:Prop} (h:P:=by unfold lA;with_reducible exact (aC (p:=⟨wr.heap.size,5,none⟩) (aC (p:=⟨wr.heap.size,4,none⟩) (aC (p:=⟨wr.heap.size,3,none⟩) (aC (p:=⟨wr.heap.size,2,none⟩) (aC (p:=⟨wr.heap.size,1,none⟩) (aC (p:=⟨wr.heap.size,0,none⟩) aK my (.slice Nj r.aa.length Nk)) my (.slice SB r.V.length SC)) my (.int .i64 r.next)) my (.int .i64 r.weights.pack)) my (.int .i64 r.weights.af)) my (.int .i64 r.weights.an))) : P := h
theorem LG {P:Prop} (h:P:=by rw [HE.out,List.getElem?_map,List.getElem?_append_right Qn,show jj - s1.length = 0 by have:=HJ.out;omega];rfl) : P := h
theorem ay {W w1:World} (X:Below W.heap.size W w1):(∀b o,b < W.heap.size→w1.cell? ⟨b,o,none⟩ = W.cell? ⟨b,o,none⟩)∧(∀b o,b < W.heap.size→w1.frozen? ⟨b,o,none⟩ = W.frozen? ⟨b,o,none⟩) :=
 ⟨fun b o h=>X.cell (p:=⟨b,o,none⟩) h,fun b o h=>X.frozen (p:=⟨b,o,none⟩) h⟩
theorem aj (w:World):Below w.heap.size w w:=Below.refl _ _
theorem ah {w w1 w2:World} (h:Below w.heap.size w w1) (k:Below w1.heap.size w1 w2):Below w.heap.size w w2:=h.trans (k.mono h.size)
theorem ak {w w1:World} (h:Below w.heap.size w w1) (o:Obj):Below w.heap.size w (w1.alloc o):=h.alloc h.size o
theorem aA {w w1:World} (h:Below w.heap.size w w1):Below w.heap.size w w1.drew:=h.drew
theorem aC {w w1:World} (h:Below w.heap.size w w1) {p:Addr} (hp:w.heap.size≤p.block) (u:Value):Below w.heap.size w (w1.setCell p u):=h.setCell hp u
section
variable {H:Type} {enc:TypeId × Value→H} {P:Program}
theorem Zi {W W':World} (hl:laidOutB P = true) (X:Below W.heap.size W W'):∀(ts:List TypeId) (vs:List Value) (ds:List (DataW H)) (ps:List MemPlace) (sp:Nat→Bool),
 (∀t∈ts,P.readableRec t = true∧t < P.types.size)→(∀x∈ps,x.block < W.heap.size)→(∀x∈ps,sp x.block = true) →
 DataW.TrodAll enc P W 0 (fun _=>true) true ts vs ds ps→DataW.TrodAll enc P W' 0 sp true ts vs ds ps
 | [],[],[],ps,sp,_,_,_,h=>h
 | t :: ts,v :: vs,d :: ds,ps,sp,ht,ax,kn,h=>by
   obtain ⟨p,q,h1,h2,rfl⟩:=h;refine ⟨p,q,?_,Zi hl X ts vs ds q sp (fun t' h'=>ht t' (List.mem_cons_of_mem _ h')) (fun x hx=>ax x (List.mem_append_right _ hx)) (fun x hx=>kn x (List.mem_append_right _ hx)) h2,rfl⟩;obtain ⟨hr,hs⟩:=ht t (List.mem_cons_self ..);exact WideElems.Trod_stays hl hr hs h1 (fun x hx=>X.same (ax x (List.mem_append_left _ hx))) (fun x hx=>kn x (List.mem_append_left _ hx))
 | [],_ :: _,_,_,_,_,_,_,h=>by simp [DataW.TrodAll] at h
 | [],[],_ :: _,_,_,_,_,_,h=>by simp [DataW.TrodAll] at h
 | _ :: _,[],_,_,_,_,_,_,h=>by simp [DataW.TrodAll] at h
 | _ :: _,_ :: _,[],_,_,_,_,_,h=>by simp [DataW.TrodAll] at h
theorem nO {f:Func} {s:ChangeSpec} {apart EG tv:Bool} {W W':World} {args:Array Value} {ds gs:List (DataW H)} {kO:List MemPlace} {tb:TypeId}
 (hl:laidOutB P = true) (hr:∀t∈f.params.toList,P.readableRec t = true∧t < P.types.size) (VK:f.resultTypes = #[tb]) (Jx:P.underlying tb = some .bool)
 (uz:s.vars = []) (mL:s.fn H ds = { results:=[.lit (.bool true)],args:=ds,vars:=[] })
 (hW:DataW.Whole enc P f.params.toList s.vars apart W args.toList ds gs kO) (X:Below W.heap.size W W') :
 s.post enc P f apart EG tv false W args (.bool true) W':=by
 have ax:∀p∈kO,p.block < W.heap.size:=fun p hp=>hW.lt p hp;have p':=hW;obtain ⟨p,q,hA,hV,rfl,hz,Z⟩:=p';rw [uz] at hV;obtain ⟨rfl,rfl⟩:=trodVars_none hV;simp only [List.append_nil] at *;have LH:∀(b:Nat) (sp:Nat→Bool) (hd:Bool),DataW.TrodAll enc P W' b sp hd f.resultTypes.toList ((Value.bool true).resultList f.resultTypes.size) (s.fn H (ds++[])).results []:=by intro b sp hd;rw [VK,List.append_nil,mL];exact trodAll_cons_mk (shut_bool Jx _) trodAll_mk0
 have uA:∀sp:Nat→Bool,(∀x∈p,sp x.block = true)→DataW.TrodAll enc P W' 0 sp true f.params.toList args.toList (s.fn H (ds++[])).args p:=by intro sp kn;rw [List.append_nil,mL];exact Zi hl X _ _ _ _ _ hr ax kn hA
 have mT:∀sp:Nat→Bool,DataW.TrodVars enc P W' sp s.vars (s.fn H (ds++[])).vars []:=by intro sp;rw [List.append_nil,mL,uz];rfl
 have hold:∀x∈p,(fun b=>decide (b < W.heap.size)) x.block = true:=fun x hx=>by simpa using ax x hx
 refine ⟨ds,[],p,[],p,[],hW,LH _ _ _,uA _ hold,mT _,World.keptBut_mono (fun x hx=>⟨hx,by simpa using hx⟩) (X.frame (·∈p)),fun VL=>by cases VL⟩
end
end Go.Proofs.YtajbbmembionpaaGreat
