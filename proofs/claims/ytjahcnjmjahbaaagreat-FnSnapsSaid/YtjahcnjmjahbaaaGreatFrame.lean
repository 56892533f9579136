/- The frame of every law's proof: if the call returns true and leaves what was there as it was, the given post holds. No condition. -/
import Derived.Test.YtjahcnjmjahbaaaGreatRows
import Derived.Lib.Hide
import Derived.BigQuiet
import Derived.WalkSpells
import Derived.Deep.AppendLies
import Derived.Deep.Slices
import Derived.Handy
namespace Go.Proofs.YtjahcnjmjahbaaaGreat
open Go.ChangeShapes Go.WideShapes Go.ChangeAt Go.RowKit
set_option maxRecDepth 100000
theorem I {P:Prop} (h:P):Hid P:=Lib.hid h
theorem J {P:Prop} (h:P:=by omega):P:=h
theorem X {P:Prop} (h:P:=by rfl):P:=h
theorem U' {P:Prop} (h:P:=by kernel_rfl):P:=h
theorem S' {P:Prop} (h:P:=by simp):P:=h
theorem N' {P:Prop} (h:P:=by go_num):P:=h
theorem Y' {P:Prop} (h:P:=by assumption):P:=h
theorem xV {P:Prop} (h:P:=by
 intro HK;have bu:Below wn.heap.size wn wn.drew:=aA (aj _);refine aX 1 _ X U' H' bu W' ?_;try simp only [Act.put,pz]
 refine aX 2 _ X U' H' bu W' ?_;try simp only [Act.put,pz]
 refine aX 3 _ X U' H' bu W' ?_;try simp only [Act.put,pz]
 refine aX 5 _ X U' H' bu W' ?_;try simp only [Act.put,pz]
 refine aX 6 _ X U' H' bu W' ?_;try simp only [Act.put,pz]
 refine aX 7 _ X U' H' bu W' ?_;try simp only [Act.put,pz]
 refine aX 8 _ X U' H' bu W' ?_;try simp only [Act.put,pz]
 refine D7 0 9 X X U' X X (fun K hK=>?_) (fun K hK=>?_)
 ·go_simp;refine hK _ _ (ak bu (.cells #[] 9)) ?_;try simp only [Act.put,pz]
  clear hK K;have Qz:=ak bu (.cells #[] 9);have KI:=D9 wn.drew 9 1 wn.heap.size rfl;refine D7 4 9 X X U' X X (fun K hK=>?_) (fun K hK=>?_)
  ·refine qQ qw _ _ X (wn.drew.alloc (.cells #[] 9)) wn.heap.size _ 0 [] KI X ⟨g,0,none⟩ jj aL ((s1.map Value.string)) X vu (fun q u hu=>(Qz.cell (p:=(⟨g,0,none⟩:Addr).add q) ip).trans (et.out q u hu)) (fun u hu=>by obtain ⟨z0,_,rfl⟩:=List.mem_map.1 hu;rfl) J J fh ?_;intro v5 w5 bb cw fi;have bo:Below wn.heap.size wn w5:=Below.grown (Qz) cw fh (fun q hq=>(KI.lt q hq).1);refine hK _ _ bo ?_;try simp only [Act.put,pz]
   clear hK K;refine bP 9 X U' X (fun K hK=>?_);go_simp;refine hK _ _ (ak bo (.cells #[.string y] 9)) ?_;try simp only [Act.put,pz]
   clear hK K;have cC:=ak bo (.cells #[.string y] 9);refine bP 10 X U' X (fun K hK=>?_);refine qQ qw _ _ X (w5.alloc (.cells #[.string y] 9)) wn.heap.size v5 _ _ (mG bb (ak (aj _) _)) X ⟨w5.heap.size,0,none⟩ 1 1 [.string y] X X (DI w5 9 [.string y] w5.heap.size rfl) (fun u hu=>by rw [List.mem_singleton.1 hu];rfl) J J fm ?_;intro v7 w7 nK Ua lk;rw [show 0+jj = jj by omega,List.nil_append] at nK;obtain ⟨g9,p9,hv7,my,kw,lm⟩:=wW nK J;subst hv7;have bF:Below wn.heap.size wn w7:=Below.grown (cC) Ua fm (fun q hq=>(bb.lt q hq).1);exact xX
  ·go_simp;refine hK _ _ (ak Qz (.cells #[.string y] 9)) ?_;try simp only [Act.put,pz]
   clear hK K;have cC:=ak Qz (.cells #[.string y] 9);replace KI:=mG KI (ak (aj _) (.cells #[.string y] 9));refine bP 4 X U' X (fun K hK=>?_);refine qQ qw _ _ X ((wn.drew.alloc (.cells #[] 9)).alloc (.cells #[.string y] 9)) wn.heap.size _ 0 [] KI X ⟨g,0,none⟩ jj aL ((s1.map Value.string)) X vu (fun q u hu=>(cC.cell (p:=(⟨g,0,none⟩:Addr).add q) ip).trans (et.out q u hu)) (fun u hu=>by obtain ⟨z0,_,rfl⟩:=List.mem_map.1 hu;rfl) J J fm ?_;intro v5 w5 bb cw fi;have bo:Below wn.heap.size wn w5:=Below.grown (cC) cw fm (fun q hq=>(KI.lt q hq).1);refine hK _ _ bo ?_;try simp only [Act.put,pz]
   clear hK K;refine bP 10 X U' X (fun K hK=>?_);refine qQ qw _ _ X w5 wn.heap.size v5 _ _ bb X ⟨wn.heap.size+1,0,none⟩ 1 1 [.string y] X X (fun q u hu=>(World.cell?_of_block sA).trans ((DI (wn.drew.alloc (.cells #[] 9)) 9 [.string y] (wn.heap.size+1) S') q u hu)) (fun u hu=>by rw [List.mem_singleton.1 hu];rfl) J J gR ?_;exact x4
 ·go_simp;refine hK _ _ (ak bu (.cells #[.string y] 9)) ?_;try simp only [Act.put,pz]
  clear hK K;have cC:=ak bu (.cells #[.string y] 9);refine bP 0 X U' X (fun K hK=>?_);go_simp;refine hK _ _ (ak cC (.cells #[] 9)) ?_;try simp only [Act.put,pz]
  clear hK K;have Qz:=ak cC (.cells #[] 9);have KI:=vP (D9 (wn.drew.alloc (.cells #[.string y] 9)) 9 1 (wn.heap.size+1) S') (B':=wn.heap.size) J;refine bP 4 X U' X (fun K hK=>?_);refine qQ qw _ _ X ((wn.drew.alloc (.cells #[.string y] 9)).alloc (.cells #[] 9)) wn.heap.size _ 0 [] KI X ⟨g,0,none⟩ jj aL ((s1.map Value.string)) X vu (fun q u hu=>(Qz.cell (p:=(⟨g,0,none⟩:Addr).add q) ip).trans (et.out q u hu)) (fun u hu=>by obtain ⟨z0,_,rfl⟩:=List.mem_map.1 hu;rfl) J J fh ?_;intro v5 w5 bb cw fi;have bo:Below wn.heap.size wn w5:=Below.grown (Qz) cw fh (fun q hq=>(KI.lt q hq).1);refine hK _ _ bo ?_;try simp only [Act.put,pz]
  clear hK K;refine bP 10 X U' X (fun K hK=>?_);refine qQ qw _ _ X w5 wn.heap.size v5 _ _ bb X ⟨wn.heap.size,0,none⟩ 1 1 [.string y] X X (fun q u hu=>(World.cell?_of_block sB).trans ((DI wn.drew 9 [.string y] wn.heap.size rfl) q u hu)) (fun u hu=>by rw [List.mem_singleton.1 hu];rfl) J J gR ?_
  exact x4):P:=h
theorem lU {P:Prop} (h:P:=by
 exact x4):P:=h
theorem Rf {P:Prop} (h:P:=by
 exact xX):P:=h
theorem EV {P:Prop} (h:P:=by
 intro HK;have bu:Below wn.heap.size wn wn.drew:=aA (aj _);refine aX 1 _ X U' H' bu W' ?_;try simp only [Act.put,pz]
 refine aX 2 _ X U' H' bu W' ?_;try simp only [Act.put,pz]
 refine aX 3 _ X U' H' bu W' ?_;try simp only [Act.put,pz]
 refine aX 4 _ X U' H' bu W' ?_;try simp only [Act.put,pz]
 refine aX 6 _ X U' H' bu W' ?_;try simp only [Act.put,pz]
 refine aX 7 _ X U' H' bu W' ?_;try simp only [Act.put,pz]
 refine aX 8 _ X U' H' bu W' ?_;try simp only [Act.put,pz]
 refine aX 9 _ X U' H' bu W' ?_;try simp only [Act.put,pz]
 refine D7 0 10 X X U' X X (fun K hK=>?_) (fun K hK=>?_)
 ·go_simp;refine hK _ _ (ak bu (.cells #[] 48)) ?_;try simp only [Act.put,pz]
  clear hK K;have Qz:=ak bu (.cells #[] 48);have KI:=D9 wn.drew 48 9 wn.heap.size rfl;refine D7 5 10 X X U' X X (fun K hK=>?_) (fun K hK=>?_)
  ·refine qQ mL _ _ X (wn.drew.alloc (.cells #[] 48)) wn.heap.size _ 0 [] KI X ⟨g,0,none⟩ k dJ ((ds.take (k * 9))) X DH (fun q u hu=>(Qz.cell (p:=(⟨g,0,none⟩:Addr).add q) ip).trans (et.out q u hu)) (fun u hu=>iB.out u (List.mem_of_mem_take hu)) J J fh ?_;intro v5 w5 bb cw fi;have bo:Below wn.heap.size wn w5:=Below.grown (Qz) cw fh (fun q hq=>(KI.lt q hq).1);refine hK _ _ bo ?_;try simp only [Act.put,pz]
   clear hK K;refine bP 10 X U' X (fun K hK=>?_);go_simp;refine hK _ _ (ak bo (.cells #[.string n.name,.slice bY n.labels.length bZ,.int .i64 n.ax,.int .i64 n.mem,.int .i64 n.aD,.slice eU n.ag.length eX,.slice bg n.ae.length bn,.string ⟨#[]⟩,.int .i64 x.next] 48)) ?_;try simp only [Act.put,pz]
   clear hK K;have cC:=ak bo (.cells #[.string n.name,.slice bY n.labels.length bZ,.int .i64 n.ax,.int .i64 n.mem,.int .i64 n.aD,.slice eU n.ag.length eX,.slice bg n.ae.length bn,.string ⟨#[]⟩,.int .i64 x.next] 48);refine bP 11 X U' X (fun K hK=>?_);refine qQ mL _ _ X (w5.alloc (.cells #[.string n.name,.slice bY n.labels.length bZ,.int .i64 n.ax,.int .i64 n.mem,.int .i64 n.aD,.slice eU n.ag.length eX,.slice bg n.ae.length bn,.string ⟨#[]⟩,.int .i64 x.next] 48)) wn.heap.size v5 _ _ (mG bb (ak (aj _) _)) X ⟨w5.heap.size,0,none⟩ 1 1 [.string n.name,.slice bY n.labels.length bZ,.int .i64 n.ax,.int .i64 n.mem,.int .i64 n.aD,.slice eU n.ag.length eX,.slice bg n.ae.length bn,.string ⟨#[]⟩,.int .i64 x.next] X X (DI w5 48 [.string n.name,.slice bY n.labels.length bZ,.int .i64 n.ax,.int .i64 n.mem,.int .i64 n.aD,.slice eU n.ag.length eX,.slice bg n.ae.length bn,.string ⟨#[]⟩,.int .i64 x.next] w5.heap.size rfl) jx.out J J fm ?_;intro v7 w7 nK Ua lk;rw [show 0+k = k by omega,List.nil_append] at nK;obtain ⟨g9,p9,hv7,my,kw,lm⟩:=wW nK J;subst hv7;have bF:Below wn.heap.size wn w7:=Below.grown (cC) Ua fm (fun q hq=>(bb.lt q hq).1);exact x5
  ·go_simp;refine hK _ _ (ak Qz (.cells #[.string n.name,.slice bY n.labels.length bZ,.int .i64 n.ax,.int .i64 n.mem,.int .i64 n.aD,.slice eU n.ag.length eX,.slice bg n.ae.length bn,.string ⟨#[]⟩,.int .i64 x.next] 48)) ?_;try simp only [Act.put,pz]
   clear hK K;have cC:=ak Qz (.cells #[.string n.name,.slice bY n.labels.length bZ,.int .i64 n.ax,.int .i64 n.mem,.int .i64 n.aD,.slice eU n.ag.length eX,.slice bg n.ae.length bn,.string ⟨#[]⟩,.int .i64 x.next] 48);replace KI:=mG KI (ak (aj _) (.cells #[.string n.name,.slice bY n.labels.length bZ,.int .i64 n.ax,.int .i64 n.mem,.int .i64 n.aD,.slice eU n.ag.length eX,.slice bg n.ae.length bn,.string ⟨#[]⟩,.int .i64 x.next] 48));refine bP 5 X U' X (fun K hK=>?_);refine qQ mL _ _ X ((wn.drew.alloc (.cells #[] 48)).alloc (.cells #[.string n.name,.slice bY n.labels.length bZ,.int .i64 n.ax,.int .i64 n.mem,.int .i64 n.aD,.slice eU n.ag.length eX,.slice bg n.ae.length bn,.string ⟨#[]⟩,.int .i64 x.next] 48)) wn.heap.size _ 0 [] KI X ⟨g,0,none⟩ k dJ ((ds.take (k * 9))) X DH (fun q u hu=>(cC.cell (p:=(⟨g,0,none⟩:Addr).add q) ip).trans (et.out q u hu)) (fun u hu=>iB.out u (List.mem_of_mem_take hu)) J J fm ?_;intro v5 w5 bb cw fi;have bo:Below wn.heap.size wn w5:=Below.grown (cC) cw fm (fun q hq=>(KI.lt q hq).1);refine hK _ _ bo ?_;try simp only [Act.put,pz]
   clear hK K;refine bP 11 X U' X (fun K hK=>?_);refine qQ mL _ _ X w5 wn.heap.size v5 _ _ bb X ⟨wn.heap.size+1,0,none⟩ 1 1 [.string n.name,.slice bY n.labels.length bZ,.int .i64 n.ax,.int .i64 n.mem,.int .i64 n.aD,.slice eU n.ag.length eX,.slice bg n.ae.length bn,.string ⟨#[]⟩,.int .i64 x.next] X X (fun q u hu=>(World.cell?_of_block sA).trans ((DI (wn.drew.alloc (.cells #[] 48)) 48 [.string n.name,.slice bY n.labels.length bZ,.int .i64 n.ax,.int .i64 n.mem,.int .i64 n.aD,.slice eU n.ag.length eX,.slice bg n.ae.length bn,.string ⟨#[]⟩,.int .i64 x.next] (wn.heap.size+1) S') q u hu)) jx.out J J gR ?_;exact E0
 ·go_simp;refine hK _ _ (ak bu (.cells #[.string n.name,.slice bY n.labels.length bZ,.int .i64 n.ax,.int .i64 n.mem,.int .i64 n.aD,.slice eU n.ag.length eX,.slice bg n.ae.length bn,.string ⟨#[]⟩,.int .i64 x.next] 48)) ?_;try simp only [Act.put,pz]
  clear hK K;have cC:=ak bu (.cells #[.string n.name,.slice bY n.labels.length bZ,.int .i64 n.ax,.int .i64 n.mem,.int .i64 n.aD,.slice eU n.ag.length eX,.slice bg n.ae.length bn,.string ⟨#[]⟩,.int .i64 x.next] 48);refine bP 0 X U' X (fun K hK=>?_);go_simp;refine hK _ _ (ak cC (.cells #[] 48)) ?_;try simp only [Act.put,pz]
  clear hK K;have Qz:=ak cC (.cells #[] 48);have KI:=vP (D9 (wn.drew.alloc (.cells #[.string n.name,.slice bY n.labels.length bZ,.int .i64 n.ax,.int .i64 n.mem,.int .i64 n.aD,.slice eU n.ag.length eX,.slice bg n.ae.length bn,.string ⟨#[]⟩,.int .i64 x.next] 48)) 48 9 (wn.heap.size+1) S') (B':=wn.heap.size) J;refine bP 5 X U' X (fun K hK=>?_);refine qQ mL _ _ X ((wn.drew.alloc (.cells #[.string n.name,.slice bY n.labels.length bZ,.int .i64 n.ax,.int .i64 n.mem,.int .i64 n.aD,.slice eU n.ag.length eX,.slice bg n.ae.length bn,.string ⟨#[]⟩,.int .i64 x.next] 48)).alloc (.cells #[] 48)) wn.heap.size _ 0 [] KI X ⟨g,0,none⟩ k dJ ((ds.take (k * 9))) X DH (fun q u hu=>(Qz.cell (p:=(⟨g,0,none⟩:Addr).add q) ip).trans (et.out q u hu)) (fun u hu=>iB.out u (List.mem_of_mem_take hu)) J J fh ?_;intro v5 w5 bb cw fi;have bo:Below wn.heap.size wn w5:=Below.grown (Qz) cw fh (fun q hq=>(KI.lt q hq).1);refine hK _ _ bo ?_;try simp only [Act.put,pz]
  clear hK K;refine bP 11 X U' X (fun K hK=>?_);refine qQ mL _ _ X w5 wn.heap.size v5 _ _ bb X ⟨wn.heap.size,0,none⟩ 1 1 [.string n.name,.slice bY n.labels.length bZ,.int .i64 n.ax,.int .i64 n.mem,.int .i64 n.aD,.slice eU n.ag.length eX,.slice bg n.ae.length bn,.string ⟨#[]⟩,.int .i64 x.next] X X (fun q u hu=>(World.cell?_of_block sB).trans ((DI wn.drew 48 [.string n.name,.slice bY n.labels.length bZ,.int .i64 n.ax,.int .i64 n.mem,.int .i64 n.aD,.slice eU n.ag.length eX,.slice bg n.ae.length bn,.string ⟨#[]⟩,.int .i64 x.next] wn.heap.size rfl) q u hu)) jx.out J J gR ?_
  exact E0):P:=h
theorem E4 {P:Prop} (h:P:=by
 try simp only [Bool.and_false,Bool.and_true,Bool.false_and,Bool.and_self] at hp
 have HN:=I (gq hall.out hp);clear hp;go_wp2_with fail
 skip
 refine aF _ U' U' (aj _) ?_
 repeat ((first | refine aG X ?_ | refine aH _ X E6 ?_);simp only [Act.put,pz])
 refine aN ?_;intro wn hn;replace hn:=hn.out;obtain ⟨jz,kz⟩:=ay hn;have jA:w.heap.size < wn.heap.size:=sq hn.size;have pr:b' < wn.heap.size:=sq hn.size;try (have qa:wr.heap.size < wn.heap.size:=sq hn.size)
 have Rg:Below wr.heap.size wr wn:=bs;have E7:wn.cell? ⟨wr.heap.size,8,none⟩ = some (.int .i64 x.O[j+1].seq):=by rw [jz _ _ S',cell_of_row _ _ _ _ _ _ (heap_alloc_new wr _)];rfl
 have anN:(j+1:Nat) < 12:=by omega
 obtain ⟨wo,hwo⟩:∃wo,wo = wr:=⟨_,rfl⟩;subst hwo;go_wp2_with fail
 go_loopw [5] (fun i2 wi=>∃q:Nat,q≤j+1∧i2 = .int .i64 q∧Hid (∀u∈x.O.take q,(u.seq == x.O[j+1].seq) = false)∧Below wn.heap.size wn wi) (fun i2 _=>j+1 - (intOf i2).toNat)
 case atStart=>exact ⟨0,Nat.zero_le _,rfl,by show ∀_,_;simp,aj _⟩
 case round =>
  obtain ⟨q,hq,rfl,HQ,hbi⟩:=hrel;have Fp:Below wo.heap.size wo wr:=ah Rg hbi;have Rh:Below w.heap.size w wr:=ah bL Fp;have ci0:=(ay Fp).1 _ 0 tX |>.trans c0;have ci1:=(ay Fp).1 _ 1 tX |>.trans c1;have ci2:=(ay Fp).1 _ 2 tX |>.trans c2;have ci3:=(ay Fp).1 _ 3 tX |>.trans c3;have ci4:=(ay Fp).1 _ 4 tX |>.trans c4;have ci5:=(ay Fp).1 _ 5 tX |>.trans c5;replace E7:=r' hbi E7 J;have kA:w.heap.size < wr.heap.size:=by have:=Fp.size;omega
  have hxi:wo.heap.size < wr.heap.size:=by have:=hbi.size;omega
  by_cases hqk:q < j+1
  ·obtain ⟨b6,o6,ck6,Fk6,e,hbF6,LU,vv,aqC,Oi⟩:=Sl.get (α:=ai) (c:=bW) dM (show q < x.O.length by omega);have XZ:=vv;obtain ⟨Ho,Hq,Xm,JK,JL,aan,AL,AO,Oz,anO,anP,acM,Xn,afj,afk,acN,aao,OA,hon6,aqD⟩:=kE XZ;subst anO;obtain ⟨rfl,rfl⟩:b6 = b'∧o6 = o':=by simpa using e.symm
   clear e;obtain ⟨m0,m1,m2,m3,m4,m5,m6,m7,m8⟩:=oE 9 Oi;clear Oi XZ anP;replace m8:=r' Rh m8 LU;have X':b6 < wr.heap.size:=(by have:=Rh.size;omega);have hqi:(q:Int) < ((j+1:Nat):Int):=J;have E9:q < x.O.length:=J;cases hse:(x.O[q].seq == x.O[j+1].seq) with
   | true =>
     have tA:cF (x.O.take (j+1)) x.O[j+1].seq = true:=by unfold cF;rw [List.any_eq_true];exact ⟨x.O[q],by rw [List.mem_take_iff_getElem];exact ⟨q,J,rfl⟩,hse⟩
     have HF:=I (DR ap av2);go_wp2_with fail
     refine aF _ U' U' (aj _) ?_
     repeat ((first | refine aG X ?_ | refine aH _ X x6 ?_);simp only [Act.put,pz])
     refine aN ?_;intro wz hz;replace hz:=hz.out;exact qd
   | false =>
     have Oj:=I (yQ (p:=fun u:ai=>u.seq == x.O[j+1].seq) E9 HQ.out hse);go_wp2_with fail
     refine aF _ U' U' (aj _) ?_
     repeat ((first | refine aG X ?_ | refine aH _ X x6 ?_);simp only [Act.put,pz])
     refine aN ?_;intro wz hz;replace hz:=hz.out;go_wp2;exact ⟨⟨q+1,J,N',Oj.out,bs⟩,by simp [intOf];omega⟩
  ·obtain rfl:q = j+1:=by omega
   have tA:cF (x.O.take (j+1)) x.O[j+1].seq = false:=by exact E'
   have Gn:=I (gq hfresh.out (show DN x.O (j+1) = true by rw [sG ap,tA];rfl));clear tA;go_wp2
   exact ⟨⟨j+1+1,J,N',HN.out,Gn.out,ah aE Fp⟩,by simp [intOf];omega⟩):P:=h
theorem oF {P:Prop} (h:P:=by
 try simp only [Bool.and_false,Bool.and_true,Bool.false_and,Bool.and_self] at hp
 have HF:=I (dW ap hp);clear hp;go_wp2_with (go_at_call 70;refine (iQ x _ _ x.Z[j+1].name _ (aJ h bs) Ji.out).mono ?_;rw [HU.out];rintro e w5 ⟨rfl,bo⟩;obtain ⟨lp,ki⟩:=ay bo;have Es:w.heap.size < w5.heap.size:=(sq bo.size);have IV:b' < w5.heap.size:=(sq bo.size);(try have ir:wr.heap.size < w5.heap.size:=(sq bo.size)))
 clear q0 q1 q2 q3 q4 q5;refine aF _ U' U' (aj _) ?_
 repeat ((first | refine aG X ?_ | refine aH _ X Fc ?_);simp only [Act.put,pz])
 exact x7):P:=h
theorem Fd {P:Prop} (h:P:=by
 have Ri:=I hS1;have HS2:=I hS2;have H1:=I he1;have H2:=I he2;clear hS1 hS2 he1 he2;go_enter Tryz.func151,Tryz.ntmps151;go_wp2_with fail
 refine (gQ x _ _ nm _ (aJ h bs) cG).mono ?_;rw [HI.out];rintro e w2 ⟨rfl,av⟩;obtain ⟨ce,cK⟩:=ay av;have cD:w.heap.size < w2.heap.size:=(sq av.size);have mz:w.heap.size+1 < w2.heap.size:=(sq av.size);have eB:Below w.heap.size w w2:=bs;go_wp2_with fail
 refine (jm x _ _ nm _ (aJ h bs) vk).mono ?_;rw [HU.out];rintro e w3 ⟨rfl,bj⟩;obtain ⟨cP,hf3⟩:=ay bj;have eK:w.heap.size < w3.heap.size:=(sq bj.size);have DJ:w.heap.size+1 < w3.heap.size:=(sq bj.size);have eh:Below w.heap.size w w3:=ah eB bj;replace q0:=r' eh q0 hbs;replace q1:=r' eh q1 hbs;replace q2:=r' eh q2 hbs;replace q3:=r' eh q3 hbs;replace q4:=r' eh q4 hbs;replace q5:=r' eh q5 hbs;have jd:bh < w3.heap.size:=by have:=eh.size;omega
 go_wp2_with fail
 refine (oQ a p.ax _ ha kQ).mono ?_;rw [H1.out];rintro e w4 ⟨rfl,bO⟩;obtain ⟨ei,hf4⟩:=ay bO;have Wy:w.heap.size < w4.heap.size:=(sq bO.size);have DM:w.heap.size+1 < w4.heap.size:=(sq bO.size);go_wp2_with fail
 refine (oQ b p.mem _ hb lg).mono ?_;rw [H2.out];rintro e w5 ⟨rfl,bo⟩;obtain ⟨lp,ki⟩:=ay bo;have Es:w.heap.size < w5.heap.size:=(sq bo.size);have IV:w.heap.size+1 < w5.heap.size:=(sq bo.size);have Dc:Below w3.heap.size w3 w5:=ah bO bo;replace q0:=r' Dc q0 jd;replace q1:=r' Dc q1 jd;replace q2:=r' Dc q2 jd;replace q3:=r' Dc q3 jd;replace q4:=r' Dc q4 jd;replace q5:=r' Dc q5 jd;have afO:bh < w5.heap.size:=by have:=Dc.size;omega
 go_wp2_with fail
 refine aF w5 U' U' (aj _) ?_
 repeat (first
  | (apply aG
     case hw=>rfl
     simp only [Act.put,pz])
  | (apply aH
     case hw=>rfl
     case h =>
      intro wq hq;have dc:=(aB hq).1;have lJ:=(aB hq).2;go_simp
      first
       | exact ⟨hq,rfl⟩
       | exact ⟨aQ hq _,rfl⟩
       | ((refine (IB _ _ _ qe qe).mono ?_;(first | rw [Ri.out] | rw [HS2.out]);rintro e wz ⟨rfl,nV⟩;exact ⟨rfl,aI hq nV⟩))
       | (simp only [↓IntWalk.iteOmega];exact ⟨hq,rfl⟩)
     simp only [Act.put,pz]))
 refine aN ?_;intro wn hn;replace hn:=hn.out;go_wp2;go_ret
 exact ⟨by rw [HF.out];first | rfl | (simp;exact HW2.out),ah eh (ah Dc hn)⟩):P:=h
theorem dC {P:Prop} (h:P:=by
 exact x6):P:=h
theorem Ff {P:Prop} (h:P:=by
 intro HK;have bu:Below wn.heap.size wn wn.drew:=aA (aj _);refine aX 1 _ X U' H' bu W' ?_;try simp only [Act.put,pz]
 refine aX 2 _ X U' H' bu W' ?_;try simp only [Act.put,pz]
 refine aX 3 _ X U' H' bu W' ?_;try simp only [Act.put,pz]
 refine aX 4 _ X U' H' bu W' ?_;try simp only [Act.put,pz]
 refine aX 6 _ X U' H' bu W' ?_;try simp only [Act.put,pz]
 refine D7 0 7 X X U' X X (fun K hK=>?_) (fun K hK=>?_)
 ·go_simp;refine hK _ _ (ak bu (.cells #[] 38)) ?_;try simp only [Act.put,pz]
  clear hK K;have Qz:=ak bu (.cells #[] 38);have KI:=D9 wn.drew 38 6 wn.heap.size rfl;refine D7 5 7 X X U' X X (fun K hK=>?_) (fun K hK=>?_)
  ·refine qQ mN _ _ X (wn.drew.alloc (.cells #[] 38)) wn.heap.size _ 0 [] KI X ⟨g,0,none⟩ k bV ((ds.take (k * 6))) X DH (fun q u hu=>(Qz.cell (p:=(⟨g,0,none⟩:Addr).add q) ip).trans (et.out q u hu)) (fun u hu=>iB.out u (List.mem_of_mem_take hu)) J J fh ?_;intro v5 w5 bb cw fi;have bo:Below wn.heap.size wn w5:=Below.grown (Qz) cw fh (fun q hq=>(KI.lt q hq).1);refine hK _ _ bo ?_;try simp only [Act.put,pz]
   clear hK K;refine bP 7 X U' X (fun K hK=>?_);go_simp;refine hK _ _ (ak bo (.cells #[.string n.name,.slice bY n.labels.length bZ,.int .i64 n.ax,.int .i64 n.mem,.int .i64 n.ar,.slice wP n.aT.length wQ] 38)) ?_;try simp only [Act.put,pz]
   clear hK K;have cC:=ak bo (.cells #[.string n.name,.slice bY n.labels.length bZ,.int .i64 n.ax,.int .i64 n.mem,.int .i64 n.ar,.slice wP n.aT.length wQ] 38);refine bP 8 X U' X (fun K hK=>?_);refine qQ mN _ _ X (w5.alloc (.cells #[.string n.name,.slice bY n.labels.length bZ,.int .i64 n.ax,.int .i64 n.mem,.int .i64 n.ar,.slice wP n.aT.length wQ] 38)) wn.heap.size v5 _ _ (mG bb (ak (aj _) _)) X ⟨w5.heap.size,0,none⟩ 1 1 [.string n.name,.slice bY n.labels.length bZ,.int .i64 n.ax,.int .i64 n.mem,.int .i64 n.ar,.slice wP n.aT.length wQ] X X (DI w5 38 [.string n.name,.slice bY n.labels.length bZ,.int .i64 n.ax,.int .i64 n.mem,.int .i64 n.ar,.slice wP n.aT.length wQ] w5.heap.size rfl) jx.out J J fm ?_;intro v7 w7 nK Ua lk;rw [show 0+k = k by omega,List.nil_append] at nK;obtain ⟨g9,p9,hv7,my,kw,lm⟩:=wW nK J;subst hv7;have bF:Below wn.heap.size wn w7:=Below.grown (cC) Ua fm (fun q hq=>(bb.lt q hq).1);exact x8
  ·go_simp;refine hK _ _ (ak Qz (.cells #[.string n.name,.slice bY n.labels.length bZ,.int .i64 n.ax,.int .i64 n.mem,.int .i64 n.ar,.slice wP n.aT.length wQ] 38)) ?_;try simp only [Act.put,pz]
   clear hK K;have cC:=ak Qz (.cells #[.string n.name,.slice bY n.labels.length bZ,.int .i64 n.ax,.int .i64 n.mem,.int .i64 n.ar,.slice wP n.aT.length wQ] 38);replace KI:=mG KI (ak (aj _) (.cells #[.string n.name,.slice bY n.labels.length bZ,.int .i64 n.ax,.int .i64 n.mem,.int .i64 n.ar,.slice wP n.aT.length wQ] 38));refine bP 5 X U' X (fun K hK=>?_);refine qQ mN _ _ X ((wn.drew.alloc (.cells #[] 38)).alloc (.cells #[.string n.name,.slice bY n.labels.length bZ,.int .i64 n.ax,.int .i64 n.mem,.int .i64 n.ar,.slice wP n.aT.length wQ] 38)) wn.heap.size _ 0 [] KI X ⟨g,0,none⟩ k bV ((ds.take (k * 6))) X DH (fun q u hu=>(cC.cell (p:=(⟨g,0,none⟩:Addr).add q) ip).trans (et.out q u hu)) (fun u hu=>iB.out u (List.mem_of_mem_take hu)) J J fm ?_;intro v5 w5 bb cw fi;have bo:Below wn.heap.size wn w5:=Below.grown (cC) cw fm (fun q hq=>(KI.lt q hq).1);refine hK _ _ bo ?_;try simp only [Act.put,pz]
   clear hK K;refine bP 8 X U' X (fun K hK=>?_);refine qQ mN _ _ X w5 wn.heap.size v5 _ _ bb X ⟨wn.heap.size+1,0,none⟩ 1 1 [.string n.name,.slice bY n.labels.length bZ,.int .i64 n.ax,.int .i64 n.mem,.int .i64 n.ar,.slice wP n.aT.length wQ] X X (fun q u hu=>(World.cell?_of_block sA).trans ((DI (wn.drew.alloc (.cells #[] 38)) 38 [.string n.name,.slice bY n.labels.length bZ,.int .i64 n.ax,.int .i64 n.mem,.int .i64 n.ar,.slice wP n.aT.length wQ] (wn.heap.size+1) S') q u hu)) jx.out J J gR ?_;exact Fg
 ·go_simp;refine hK _ _ (ak bu (.cells #[.string n.name,.slice bY n.labels.length bZ,.int .i64 n.ax,.int .i64 n.mem,.int .i64 n.ar,.slice wP n.aT.length wQ] 38)) ?_;try simp only [Act.put,pz]
  clear hK K;have cC:=ak bu (.cells #[.string n.name,.slice bY n.labels.length bZ,.int .i64 n.ax,.int .i64 n.mem,.int .i64 n.ar,.slice wP n.aT.length wQ] 38);refine bP 0 X U' X (fun K hK=>?_);go_simp;refine hK _ _ (ak cC (.cells #[] 38)) ?_;try simp only [Act.put,pz]
  clear hK K;have Qz:=ak cC (.cells #[] 38);have KI:=vP (D9 (wn.drew.alloc (.cells #[.string n.name,.slice bY n.labels.length bZ,.int .i64 n.ax,.int .i64 n.mem,.int .i64 n.ar,.slice wP n.aT.length wQ] 38)) 38 6 (wn.heap.size+1) S') (B':=wn.heap.size) J;refine bP 5 X U' X (fun K hK=>?_);refine qQ mN _ _ X ((wn.drew.alloc (.cells #[.string n.name,.slice bY n.labels.length bZ,.int .i64 n.ax,.int .i64 n.mem,.int .i64 n.ar,.slice wP n.aT.length wQ] 38)).alloc (.cells #[] 38)) wn.heap.size _ 0 [] KI X ⟨g,0,none⟩ k bV ((ds.take (k * 6))) X DH (fun q u hu=>(Qz.cell (p:=(⟨g,0,none⟩:Addr).add q) ip).trans (et.out q u hu)) (fun u hu=>iB.out u (List.mem_of_mem_take hu)) J J fh ?_;intro v5 w5 bb cw fi;have bo:Below wn.heap.size wn w5:=Below.grown (Qz) cw fh (fun q hq=>(KI.lt q hq).1);refine hK _ _ bo ?_;try simp only [Act.put,pz]
  clear hK K;refine bP 8 X U' X (fun K hK=>?_);refine qQ mN _ _ X w5 wn.heap.size v5 _ _ bb X ⟨wn.heap.size,0,none⟩ 1 1 [.string n.name,.slice bY n.labels.length bZ,.int .i64 n.ax,.int .i64 n.mem,.int .i64 n.ar,.slice wP n.aT.length wQ] X X (fun q u hu=>(World.cell?_of_block sB).trans ((DI wn.drew 38 [.string n.name,.slice bY n.labels.length bZ,.int .i64 n.ax,.int .i64 n.mem,.int .i64 n.ar,.slice wP n.aT.length wQ] wn.heap.size rfl) q u hu)) jx.out J J gR ?_
  exact Fg):P:=h
theorem Fi {P:Prop} (h:P:=by
 intro HK;have bu:Below wn.heap.size wn wn.drew:=aA (aj _);refine aX 1 _ X U' H' bu W' ?_;try simp only [Act.put,pz]
 refine aX 2 _ X U' H' bu W' ?_;try simp only [Act.put,pz]
 refine aX 3 _ X U' H' bu W' ?_;try simp only [Act.put,pz]
 refine aX 5 _ X U' H' bu W' ?_;try simp only [Act.put,pz]
 refine D7 0 6 X X U' X X (fun K hK=>?_) (fun K hK=>?_)
 ·go_simp;refine hK _ _ (ak bu (.cells #[] 89)) ?_;try simp only [Act.put,pz]
  clear hK K;have Qz:=ak bu (.cells #[] 89);have KI:=D9 wn.drew 89 3 wn.heap.size rfl;refine D7 4 6 X X U' X X (fun K hK=>?_) (fun K hK=>?_)
  ·refine qQ tB _ _ X (wn.drew.alloc (.cells #[] 89)) wn.heap.size _ 0 [] KI X ⟨g,0,none⟩ jj aL ((ds.take (jj * 3))) X Rj (fun q u hu=>(Qz.cell (p:=(⟨g,0,none⟩:Addr).add q) ip).trans (et.out q u hu)) (fun u hu=>iB.out u (List.mem_of_mem_take hu)) J J fh ?_;intro v5 w5 bb cw fi;have bo:Below wn.heap.size wn w5:=Below.grown (Qz) cw fh (fun q hq=>(KI.lt q hq).1);refine hK _ _ bo ?_;try simp only [Act.put,pz]
   clear hK K;refine bP 6 X U' X (fun K hK=>?_);go_simp;refine hK _ _ (ak bo (.cells #[.string y.key,.int .i64 y.op,.slice Ay y.values.length cy] 89)) ?_;try simp only [Act.put,pz]
   clear hK K;have cC:=ak bo (.cells #[.string y.key,.int .i64 y.op,.slice Ay y.values.length cy] 89);refine bP 7 X U' X (fun K hK=>?_);refine qQ tB _ _ X (w5.alloc (.cells #[.string y.key,.int .i64 y.op,.slice Ay y.values.length cy] 89)) wn.heap.size v5 _ _ (mG bb (ak (aj _) _)) X ⟨w5.heap.size,0,none⟩ 1 1 [.string y.key,.int .i64 y.op,.slice Ay y.values.length cy] X X (DI w5 89 [.string y.key,.int .i64 y.op,.slice Ay y.values.length cy] w5.heap.size rfl) jx.out J J fm ?_;intro v7 w7 nK Ua lk;rw [show 0+jj = jj by omega,List.nil_append] at nK;obtain ⟨g9,p9,hv7,my,kw,lm⟩:=wW nK J;subst hv7;have bF:Below wn.heap.size wn w7:=Below.grown (cC) Ua fm (fun q hq=>(bb.lt q hq).1);exact Fo
  ·go_simp;refine hK _ _ (ak Qz (.cells #[.string y.key,.int .i64 y.op,.slice Ay y.values.length cy] 89)) ?_;try simp only [Act.put,pz]
   clear hK K;have cC:=ak Qz (.cells #[.string y.key,.int .i64 y.op,.slice Ay y.values.length cy] 89);replace KI:=mG KI (ak (aj _) (.cells #[.string y.key,.int .i64 y.op,.slice Ay y.values.length cy] 89));refine bP 4 X U' X (fun K hK=>?_);refine qQ tB _ _ X ((wn.drew.alloc (.cells #[] 89)).alloc (.cells #[.string y.key,.int .i64 y.op,.slice Ay y.values.length cy] 89)) wn.heap.size _ 0 [] KI X ⟨g,0,none⟩ jj aL ((ds.take (jj * 3))) X Rj (fun q u hu=>(cC.cell (p:=(⟨g,0,none⟩:Addr).add q) ip).trans (et.out q u hu)) (fun u hu=>iB.out u (List.mem_of_mem_take hu)) J J fm ?_;intro v5 w5 bb cw fi;have bo:Below wn.heap.size wn w5:=Below.grown (cC) cw fm (fun q hq=>(KI.lt q hq).1);refine hK _ _ bo ?_;try simp only [Act.put,pz]
   clear hK K;refine bP 7 X U' X (fun K hK=>?_);refine qQ tB _ _ X w5 wn.heap.size v5 _ _ bb X ⟨wn.heap.size+1,0,none⟩ 1 1 [.string y.key,.int .i64 y.op,.slice Ay y.values.length cy] X X (fun q u hu=>(World.cell?_of_block sA).trans ((DI (wn.drew.alloc (.cells #[] 89)) 89 [.string y.key,.int .i64 y.op,.slice Ay y.values.length cy] (wn.heap.size+1) S') q u hu)) jx.out J J gR ?_;exact Fr
 ·go_simp;refine hK _ _ (ak bu (.cells #[.string y.key,.int .i64 y.op,.slice Ay y.values.length cy] 89)) ?_;try simp only [Act.put,pz]
  clear hK K;have cC:=ak bu (.cells #[.string y.key,.int .i64 y.op,.slice Ay y.values.length cy] 89);refine bP 0 X U' X (fun K hK=>?_);go_simp;refine hK _ _ (ak cC (.cells #[] 89)) ?_;try simp only [Act.put,pz]
  clear hK K;have Qz:=ak cC (.cells #[] 89);have KI:=vP (D9 (wn.drew.alloc (.cells #[.string y.key,.int .i64 y.op,.slice Ay y.values.length cy] 89)) 89 3 (wn.heap.size+1) S') (B':=wn.heap.size) J;refine bP 4 X U' X (fun K hK=>?_);refine qQ tB _ _ X ((wn.drew.alloc (.cells #[.string y.key,.int .i64 y.op,.slice Ay y.values.length cy] 89)).alloc (.cells #[] 89)) wn.heap.size _ 0 [] KI X ⟨g,0,none⟩ jj aL ((ds.take (jj * 3))) X Rj (fun q u hu=>(Qz.cell (p:=(⟨g,0,none⟩:Addr).add q) ip).trans (et.out q u hu)) (fun u hu=>iB.out u (List.mem_of_mem_take hu)) J J fh ?_;intro v5 w5 bb cw fi;have bo:Below wn.heap.size wn w5:=Below.grown (Qz) cw fh (fun q hq=>(KI.lt q hq).1);refine hK _ _ bo ?_;try simp only [Act.put,pz]
  clear hK K;refine bP 7 X U' X (fun K hK=>?_);refine qQ tB _ _ X w5 wn.heap.size v5 _ _ bb X ⟨wn.heap.size,0,none⟩ 1 1 [.string y.key,.int .i64 y.op,.slice Ay y.values.length cy] X X (fun q u hu=>(World.cell?_of_block sB).trans ((DI wn.drew 89 [.string y.key,.int .i64 y.op,.slice Ay y.values.length cy] wn.heap.size rfl) q u hu)) jx.out J J gR ?_
  exact Fr):P:=h
theorem tC {P:Prop} (h:P:=by
 go_wp2_with fail
 clear q0 q1 q2 q3 q4 q5 q6 q7 q8;refine aF _ U' U' (aj _) ?_
 repeat ((first | refine aG X ?_ | refine aH _ X Fs ?_);simp only [Act.put,pz])
 exact x7):P:=h
theorem qg {P:Prop} (h:P:=by
 have HF:=I (dW ap hp);clear hp;go_wp2_with (go_at_call 70;refine (iQ x _ _ x.Z[0].name _ (aJ h bs) Ji.out).mono ?_;rw [HU.out];rintro e w5 ⟨rfl,bo⟩;obtain ⟨lp,ki⟩:=ay bo;have Es:w.heap.size < w5.heap.size:=(sq bo.size);have IV:b < w5.heap.size:=(sq bo.size);(try have ir:wr.heap.size < w5.heap.size:=(sq bo.size)))
 clear q0 q1 q2 q3 q4 q5;refine aF _ U' U' (aj _) ?_
 repeat ((first | refine aG X ?_ | refine aH _ X Fw ?_);simp only [Act.put,pz])
 exact ya):P:=h
theorem Fy {P:Prop} (h:P:=by
 exact x7):P:=h
theorem tD {P:Prop} (h:P:=by
 try simp only [Bool.and_false,Bool.and_true,Bool.false_and,Bool.and_self] at hp
 have HF:=I (dW ap hp);clear hp;go_wp2_with fail
 refine aF _ U' U' (aj _) ?_
 repeat ((first | refine aG X ?_ | refine aH _ X FA ?_);simp only [Act.put,pz])
 refine aN ?_;intro wn hn;replace hn:=hn.out;obtain ⟨jz,kz⟩:=ay hn;have jA:w.heap.size < wn.heap.size:=sq hn.size;have pr:b' < wn.heap.size:=sq hn.size;try (have qa:wr.heap.size < wn.heap.size:=sq hn.size)
 go_wp2_with (go_at_call 57;refine (jm x _ _ x.Z[j+1].name _ (aJ h bs) Ji.out).mono ?_;rw [HU.out];rintro e w5 ⟨rfl,bo⟩;obtain ⟨lp,ki⟩:=ay bo;have Es:w.heap.size < w5.heap.size:=(sq bo.size);have IV:b' < w5.heap.size:=(sq bo.size);(try have ir:wr.heap.size < w5.heap.size:=(sq bo.size)))
 go_ret
 exact ⟨by rw [HF.out];rfl,bs⟩):P:=h
theorem tE {P:Prop} (h:P:=by
 have HF:=I (dW ap hp);clear hp;go_wp2_with fail
 refine aF _ U' U' (aj _) ?_
 repeat ((first | refine aG X ?_ | refine aH _ X FB ?_);simp only [Act.put,pz])
 refine aN ?_;intro wn hn;replace hn:=hn.out;obtain ⟨jz,kz⟩:=ay hn;have jA:w.heap.size < wn.heap.size:=sq hn.size;have pr:b < wn.heap.size:=sq hn.size;try (have qa:wr.heap.size < wn.heap.size:=sq hn.size)
 go_wp2_with (go_at_call 57;refine (jm x _ _ x.Z[0].name _ (aJ h bs) Ji.out).mono ?_;rw [HU.out];rintro e w5 ⟨rfl,bo⟩;obtain ⟨lp,ki⟩:=ay bo;have Es:w.heap.size < w5.heap.size:=(sq bo.size);have IV:b < w5.heap.size:=(sq bo.size);(try have ir:wr.heap.size < w5.heap.size:=(sq bo.size)))
 go_ret
 exact ⟨by rw [HF.out];rfl,bs⟩):P:=h
theorem tF {P:Prop} (h:P:=by
 go_wp2_with fail
 clear q0 q1 q2 q3 q4 q5 q6 q7 q8;refine aF _ U' U' (aj _) ?_
 repeat ((first | refine aG X ?_ | refine aH _ X FE ?_);simp only [Act.put,pz])
 exact ya):P:=h
theorem yb {P:Prop} (h:P:=by
 rintro e w1 ⟨ds,G,rfl,hO,bk⟩;have hR:=hO.rd;obtain ⟨kM,kN,ND,ny,nC,TD,aw,hGr,NG,TF,TG,xI,uD,xJ⟩:=aO hR;subst aw;clear hGr hR;have cQ:=bk.size;simp at cQ;have XB:oG w1 (w.heap.size+1+1) [.slice none 0 0,.slice none 0 0,.int .i64 0,.int .i64 0,.int .i64 0,.int .i64 0]:=oG.ext (oG.vx w _ _ [.slice none 0 0,.slice none 0 0,.int .i64 0,.int .i64 0,.int .i64 0,.int .i64 0] 29) bk;have HO:=I (hO.mono (B':=w.heap.size+1+1+1) S');have av:Below w.heap.size w w1:=ah cg bk;clear hO bk h;try dsimp only
 iterate 8 go_step
 refine lr 29 _ _ rfl (w.heap.size+1+1) 0 [.slice kM R.Z.length kN,.slice ny R.O.length nC,.int .i64 R.next,.int .i64 R.weights.pack,.int .i64 R.weights.af,.int .i64 R.weights.an] [.slice none 0 0,.slice none 0 0,.int .i64 0,.int .i64 0,.int .i64 0,.int .i64 0] rfl rfl XB S' U' eu ?_;intro w2 YB OB;replace YB:oG w2 (w.heap.size+1+1) [.slice kM R.Z.length kN,.slice ny R.O.length nC,.int .i64 R.next,.int .i64 R.weights.pack,.int .i64 R.weights.af,.int .i64 R.weights.an]:=YB;try dsimp only [Act.put]
 go_wp2;refine bodyPost_ret (v:=.tuple #[.agg #[.slice kM R.Z.length kN,.slice ny R.O.length nC,.int .i64 R.next,.int .i64 R.weights.pack,.int .i64 R.weights.af,.int .i64 R.weights.an],.int .i64 cd]) (yc Tryz.results66 _ (w.heap.size+1+1) [.slice kM R.Z.length kN,.slice ny R.O.length nC,.int .i64 R.next,.int .i64 R.weights.pack,.int .i64 R.weights.af,.int .i64 R.weights.an] _ _ rfl rfl YB Tryz.underlying29 rfl U') rfl ?_
 exact FF):P:=h
theorem yd {P:Prop} (h:P:=by
 go_wp2_with fail
 refine (gQ x _ _ nm _ (aJ h bs) cG).mono ?_;rw [HI.out];rintro e w2 ⟨rfl,av⟩;obtain ⟨ce,cK⟩:=ay av;have cD:w.heap.size < w2.heap.size:=(sq av.size);have mz:w.heap.size+1 < w2.heap.size:=(sq av.size);have eB:Below w.heap.size w w2:=bs;go_wp2_with fail
 refine (jm x _ _ nm _ (aJ h bs) vk).mono ?_;rw [HU.out];rintro e w3 ⟨rfl,bj⟩;obtain ⟨cP,hf3⟩:=ay bj;have eK:w.heap.size < w3.heap.size:=(sq bj.size);have DJ:w.heap.size+1 < w3.heap.size:=(sq bj.size);have eh:Below w.heap.size w w3:=ah eB bj
 exact qd):P:=h
theorem Rk {P:Prop} (h:P:=by
 exact Fs):P:=h
theorem ye {P:Prop} (h:P:=by
 have HS:=I hS;clear hS;have H1:=I he1;clear he1;have H2:=I he2;clear he2;go_wp2_with fail
 refine (Ol.out _ bs).mono ?_;rw [HS.out];rintro e w4 ⟨rfl,bO⟩;obtain ⟨ei,hf4⟩:=ay bO;have Wy:w.heap.size < w4.heap.size:=(sq bO.size);have DM:w.heap.size+1 < w4.heap.size:=(sq bO.size);have Rl:w3.heap.size < w4.heap.size:=(sq bO.size);go_wp2_with fail
 refine (Om.out _ bs).mono ?_;rintro e w5 ⟨rfl,bo⟩;obtain ⟨lp,ki⟩:=ay bo;have Es:w.heap.size < w5.heap.size:=(sq bo.size);have IV:w.heap.size+1 < w5.heap.size:=(sq bo.size);have ir:w3.heap.size < w5.heap.size:=(sq bo.size);go_wp2_with fail
 refine (oQ a p.ax _ ha kQ).mono ?_;rw [H1.out];rintro e w6 ⟨rfl,dv⟩;obtain ⟨Oi,Xe⟩:=ay dv;have sC:w.heap.size < w6.heap.size:=(sq dv.size);have hy6:w.heap.size+1 < w6.heap.size:=(sq dv.size);have pt:w3.heap.size < w6.heap.size:=(sq dv.size);go_wp2_with fail
 refine (oQ b p.mem _ hb lg).mono ?_;rw [H2.out];rintro e w7 ⟨rfl,bF⟩;obtain ⟨hc7,hf7⟩:=ay bF;have mQ:w.heap.size < w7.heap.size:=(sq bF.size);have hy7:w.heap.size+1 < w7.heap.size:=(sq bF.size);have hx7:w3.heap.size < w7.heap.size:=(sq bF.size)
 exact yf):P:=h
theorem FG {P:Prop} (h:P:=by
 exact ya):P:=h
theorem FJ {P:Prop} (h:P:=by
 have HN:=I (gq hall.out hp);clear hp;go_wp2_with fail
 skip
 refine aF _ U' U' (aj _) ?_
 repeat ((first | refine aG X ?_ | refine aH _ X FK ?_);simp only [Act.put,pz])
 refine aN ?_;intro wn hn;replace hn:=hn.out;obtain ⟨jz,kz⟩:=ay hn;have jA:w.heap.size < wn.heap.size:=sq hn.size;have pr:b < wn.heap.size:=sq hn.size;try (have qa:wr.heap.size < wn.heap.size:=sq hn.size)
 have Rg:Below wr.heap.size wr wn:=bs;have E7:wn.cell? ⟨wr.heap.size,8,none⟩ = some (.int .i64 x.O[0].seq):=by rw [jz _ _ S',cell_of_row _ _ _ _ _ _ (heap_alloc_new wr _)];rfl
 have anN:(0:Nat) < 12:=by omega
 obtain ⟨wo,hwo⟩:∃wo,wo = wr:=⟨_,rfl⟩;subst hwo;go_wp2_with fail
 go_loopw [5] (fun i2 wi=>∃q:Nat,q≤0∧i2 = .int .i64 q∧Hid (∀u∈x.O.take q,(u.seq == x.O[0].seq) = false)∧Below wn.heap.size wn wi) (fun i2 _=>0 - (intOf i2).toNat)
 case atStart=>exact ⟨0,Nat.zero_le _,rfl,by show ∀_,_;simp,aj _⟩
 case round =>
  obtain ⟨q,hq,rfl,HQ,hbi⟩:=hrel;have Fp:Below wo.heap.size wo wr:=ah Rg hbi;have Rh:Below w.heap.size w wr:=ah bL Fp;have ci0:=(ay Fp).1 _ 0 tX |>.trans c0;have ci1:=(ay Fp).1 _ 1 tX |>.trans c1;have ci2:=(ay Fp).1 _ 2 tX |>.trans c2;have ci3:=(ay Fp).1 _ 3 tX |>.trans c3;have ci4:=(ay Fp).1 _ 4 tX |>.trans c4;have ci5:=(ay Fp).1 _ 5 tX |>.trans c5;replace E7:=r' hbi E7 J;have kA:w.heap.size < wr.heap.size:=by have:=Fp.size;omega
  have hxi:wo.heap.size < wr.heap.size:=by have:=hbi.size;omega
  by_cases hqk:q < 0
  ·exact absurd hqk J
  ·obtain rfl:q = 0:=by omega
   have tA:cF (x.O.take (0)) x.O[0].seq = false:=by exact E'
   have Gn:=I (gq hfresh.out (show DN x.O (0) = true by rw [sG ap,tA];rfl));clear tA;go_wp2
   exact ⟨⟨0+1,J,N',HN.out,Gn.out,ah aE Fp⟩,by simp [intOf];omega⟩):P:=h
theorem Rm {P:Prop} (h:P:=by
 exact FE):P:=h
theorem FL {P:Prop} (h:P:=by
 rw [HK.out];rintro e w2 ⟨rfl,av⟩;obtain ⟨ce,cK⟩:=ay av;have cD:w.heap.size < w2.heap.size:=by have:=av.size;simp at this;omega
 have lV:w2.cell? ⟨w.heap.size,1,none⟩ = some (.int .i64 x.op):=by rw [ce _ _ S',cell_of_row _ _ _ _ _ _ (heap_alloc_new w _)];rfl
 have mA:w2.cell? ⟨w.heap.size,2,none⟩ = some (.slice jy x.values.length ji):=by rw [ce _ _ S',cell_of_row _ _ _ _ _ _ (heap_alloc_new w _)];rfl
 have eB:Below w.heap.size w w2:=bs;clear ce cK;go_wp2;go_ret
 exact ⟨by rw [HF.out];first | rfl | simp_all,eB⟩):P:=h
theorem Rp {P:Prop} (h:P:=by
 exact E6):P:=h
theorem ej {P:Prop} (h:P:=by
 exact qd):P:=h
theorem FM {P:Prop} (h:P:=by
 exact FA):P:=h
theorem Rr {P:Prop} (h:P:=by
 exact FK):P:=h
theorem FN {P:Prop} (h:P:=by
 have HC:=I hc;have HN:=I hn;clear hc hn;go_wp2_with fail
 refine (tG x _ _ _ (aZ h cg) HW.out).mono ?_;rintro e w1 ⟨lu,G1,rfl,jX,bk,hRM⟩;obtain ⟨da,eW⟩:=ay bk;have yi:w.heap.size < w1.heap.size:=sq bk.size;have yj:w.heap.size+1 < w1.heap.size:=sq bk.size;have yk:w.heap.size+1+1 < w1.heap.size:=sq bk.size;have dt:=jX.rd;obtain ⟨dG,bV,xq,dS,dJ,Bz,aw,hG1,oO,tq,wI,iV,gI,iW⟩:=aO dt;subst aw;clear hG1 dt;go_wp2_with fail
 refine (On u _ _ _ (aZ h' cg) HU.out).mono ?_;rw [HN.out];rintro e w2 ⟨yl,G2,rfl,bN,av⟩;obtain ⟨ce,cK⟩:=ay av;have ym:w.heap.size < w2.heap.size:=sq av.size;have yn:w.heap.size+1 < w2.heap.size:=sq av.size;have yo:w.heap.size+1+1 < w2.heap.size:=sq av.size;have yp:w1.heap.size < w2.heap.size:=sq av.size;have iL:=bN.rd;obtain ⟨bY,bZ,iq,eU,eX,jV,bg,bn,dK,aw,hG2,jW,dA,kQ,lg,lG,iO,bK⟩:=dL iL;subst aw;clear hG2 iL;go_wp2_with fail
 refine (qM x _ _ _ (aZ h cg) HW.out).mono ?_;rw [HC.out];rintro e w3 ⟨rfl,bj⟩;obtain ⟨cP,hf3⟩:=ay bj;have yq:w.heap.size < w3.heap.size:=sq bj.size;have yr:w.heap.size+1 < w3.heap.size:=sq bj.size;have yv:w.heap.size+1+1 < w3.heap.size:=sq bj.size;have yz:w1.heap.size < w3.heap.size:=sq bj.size;have yL:w2.heap.size < w3.heap.size:=sq bj.size;have HI:=I eZ;clear eZ;go_wp2_with fail
 refine (DO x _ _ n.name _ (aZ h cg) Ji.out).mono ?_;rw [HI.out];rintro e w4 ⟨rfl,bO⟩;obtain ⟨ei,hf4⟩:=ay bO;have FO:w.heap.size < w4.heap.size:=sq bO.size;have FR:w.heap.size+1 < w4.heap.size:=sq bO.size;have FU:w.heap.size+1+1 < w4.heap.size:=sq bO.size;have FV:w1.heap.size < w4.heap.size:=sq bO.size;have F0:w2.heap.size < w4.heap.size:=sq bO.size;have mR:Hid (am w4 (w.heap.size+1+1+1) x [.slice dG x.Z.length bV,.slice dS x.O.length dJ,.int .i64 x.next,.int .i64 x.weights.pack,.int .i64 x.weights.af,.int .i64 x.weights.an] G1):=I ((((((jX.mono S').alloc _).ext av).alloc _).ext bj).ext bO);clear jX bN hRM;go_wp2_with fail
 try dsimp only
 iterate 60 (first | go_step | skip)
 refine bodyPost_ret (v:=.tuple #[.agg #[.slice dG x.Z.length bV,.slice dS x.O.length dJ,.int .i64 x.next,.int .i64 x.weights.pack,.int .i64 x.weights.af,.int .i64 x.weights.an],.int .i64 4]) (by simp [results,Tryz.results159,go_sem, *]) rfl ?_
 exact yN):P:=h
theorem Ga {P:Prop} (h:P:=by
 exact FB):P:=h
theorem yP {P:Prop} (h:P:=by
 have rr:=HS.out.bw.lt;go_wp2_with fail
 refine (Rs x _ _ v3 (Oo HX.out HS.out.aM) fb dx yW hv).mono ?_;rintro e w8 ⟨Rv,G8,rfl,sV,iN⟩;have T8:=HS.out.ext iN;have SY:=sV;obtain ⟨qh,aHA,aJp,aIC,aID,aBA,aHF,aHG,aJF,ayd,hF9,aye,aJq,aAR,aAS,aDs,aBB,aJG⟩:=dL sV.rd;subst ayd;clear hF9 sV;obtain ⟨r0,r1,r2,r3,r4,r5,r6⟩:=mS T8.rb;have rf:=T8.rb.fz;have rl:=T8.rb.lt;have mR:=I SY;have DP:=I T8;have Ry:w.heap.size+1 < v3.heap.size:=HS.out.rb.lt;clear SY T8 iN;go_wp2_with fail
 try dsimp only
 iterate 60 (first | go_step | skip)
 refine bodyPost_ret (v:=.tuple #[.agg #[.string x.name,.slice qh x.labels.length aHA,.int .i64 x.ax,.int .i64 x.mem,.int .i64 x.aD,.slice aIC x.ag.length aID,.slice aHF x.ae.length aHG],.bool false]) (by simp [results,Tryz.results187,go_sem, *]) rfl ⟨[.string x.name,.slice qh x.labels.length aHA,.int .i64 x.ax,.int .i64 x.mem,.int .i64 x.aD,.slice aIC x.ag.length aID,.slice aHF x.ae.length aHG],G8,by rw [nL.out];try rfl,?_,?_⟩
 ·rw [nL.out];refine am.mono (B:=v3.heap.size) ?_ J;exact DQ
 ·exact Ow):P:=h
theorem Gb {P:Prop} (h:P:=by
 have HC:=I hc;have HN:=I hn;clear hc hn;go_wp2_with fail
 refine (tG x _ _ _ (aZ h cg) HW.out).mono ?_;rintro e w1 ⟨lu,G1,rfl,jX,bk,hRM⟩;obtain ⟨da,eW⟩:=ay bk;have yi:w.heap.size < w1.heap.size:=sq bk.size;have yj:w.heap.size+1 < w1.heap.size:=sq bk.size;have yk:w.heap.size+1+1 < w1.heap.size:=sq bk.size;have dt:=jX.rd;obtain ⟨dG,bV,xq,dS,dJ,Bz,aw,hG1,oO,tq,wI,iV,gI,iW⟩:=aO dt;subst aw;clear hG1 dt;go_wp2_with fail
 refine (On u _ _ _ (aZ h' cg) HU.out).mono ?_;rw [HN.out];rintro e w2 ⟨yl,G2,rfl,bN,av⟩;obtain ⟨ce,cK⟩:=ay av;have ym:w.heap.size < w2.heap.size:=sq av.size;have yn:w.heap.size+1 < w2.heap.size:=sq av.size;have yo:w.heap.size+1+1 < w2.heap.size:=sq av.size;have yp:w1.heap.size < w2.heap.size:=sq av.size;have iL:=bN.rd;obtain ⟨bY,bZ,iq,eU,eX,jV,bg,bn,dK,aw,hG2,jW,dA,kQ,lg,lG,iO,bK⟩:=dL iL;subst aw;clear hG2 iL;go_wp2_with fail
 refine (qM x _ _ _ (aZ h cg) HW.out).mono ?_;rw [HC.out];rintro e w3 ⟨rfl,bj⟩;obtain ⟨cP,hf3⟩:=ay bj;have yq:w.heap.size < w3.heap.size:=sq bj.size;have yr:w.heap.size+1 < w3.heap.size:=sq bj.size;have yv:w.heap.size+1+1 < w3.heap.size:=sq bj.size;have yz:w1.heap.size < w3.heap.size:=sq bj.size;have yL:w2.heap.size < w3.heap.size:=sq bj.size;have mR:Hid (am w3 (w.heap.size+1+1+1) x [.slice dG x.Z.length bV,.slice dS x.O.length dJ,.int .i64 x.next,.int .i64 x.weights.pack,.int .i64 x.weights.af,.int .i64 x.weights.an] G1):=I (((((jX.mono S').alloc _).ext av).alloc _).ext bj);clear jX bN hRM;go_wp2_with fail
 try dsimp only
 iterate 60 (first | go_step | skip)
 refine bodyPost_ret (v:=.tuple #[.agg #[.slice dG x.Z.length bV,.slice dS x.O.length dJ,.int .i64 x.next,.int .i64 x.weights.pack,.int .i64 x.weights.af,.int .i64 x.weights.an],.int .i64 1]) (by simp [results,Tryz.results159,go_sem, *]) rfl ?_
 exact yN):P:=h
theorem Gc {P:Prop} (h:P:=by
 exact x5):P:=h
theorem Ge {P:Prop} (h:P:=by
 exact x8):P:=h
theorem lW {P:Prop} (h:P:=by
 go_wp2_with (first | (go_at_call 40;refine (pJ a.labels b.labels _ _ _ _ _ _ _ (jr.ext bs) (dA.ext bs)).mono ?_;rw [LH.out];rintro e w1 ⟨rfl,bk⟩;obtain ⟨da,eW⟩:=ay bk;have zO:w.heap.size < w1.heap.size:=(sq bk.size);have CO:w.heap.size+1 < w1.heap.size:=(sq bk.size)))
 go_ret
 exact ⟨by rw [HF.out];rfl,bs⟩):P:=h
theorem Gg {P:Prop} (h:P:=by
 have HC:=I hc;have HN:=I hn;clear hc hn;go_wp2_with fail
 refine (tG x _ _ _ (aZ h cg) HW.out).mono ?_;rintro e w1 ⟨lu,G1,rfl,jX,bk,hRM⟩;obtain ⟨da,eW⟩:=ay bk;have yi:w.heap.size < w1.heap.size:=sq bk.size;have yj:w.heap.size+1 < w1.heap.size:=sq bk.size;have yk:w.heap.size+1+1 < w1.heap.size:=sq bk.size;have dt:=jX.rd;obtain ⟨dG,bV,xq,dS,dJ,Bz,aw,hG1,oO,tq,wI,iV,gI,iW⟩:=aO dt;subst aw;clear hG1 dt;go_wp2_with fail
 refine (Ox u _ _ _ (aZ h' cg) HU.out).mono ?_;rw [HN.out];rintro e w2 ⟨yl,G2,rfl,bN,av⟩;obtain ⟨ce,cK⟩:=ay av;have ym:w.heap.size < w2.heap.size:=sq av.size;have yn:w.heap.size+1 < w2.heap.size:=sq av.size;have yo:w.heap.size+1+1 < w2.heap.size:=sq av.size;have yp:w1.heap.size < w2.heap.size:=sq av.size;have iL:=bN.rd;obtain ⟨bY,bZ,iq,wP,wQ,Qe,aw,hG2,jW,dA,kQ,lg,Nh,Bd⟩:=iy iL;subst aw;clear hG2 iL;go_wp2_with fail
 refine (qM x _ _ _ (aZ h cg) HW.out).mono ?_;rw [HC.out];rintro e w3 ⟨rfl,bj⟩;obtain ⟨cP,hf3⟩:=ay bj;have yq:w.heap.size < w3.heap.size:=sq bj.size;have yr:w.heap.size+1 < w3.heap.size:=sq bj.size;have yv:w.heap.size+1+1 < w3.heap.size:=sq bj.size;have yz:w1.heap.size < w3.heap.size:=sq bj.size;have yL:w2.heap.size < w3.heap.size:=sq bj.size;have mR:Hid (am w3 (w.heap.size+1+1+1) x [.slice dG x.Z.length bV,.slice dS x.O.length dJ,.int .i64 x.next,.int .i64 x.weights.pack,.int .i64 x.weights.af,.int .i64 x.weights.an] G1):=I (((((jX.mono S').alloc _).ext av).alloc _).ext bj);clear jX bN hRM;go_wp2_with fail
 try dsimp only
 iterate 60 (first | go_step | skip)
 refine bodyPost_ret (v:=.tuple #[.agg #[.slice dG x.Z.length bV,.slice dS x.O.length dJ,.int .i64 x.next,.int .i64 x.weights.pack,.int .i64 x.weights.af,.int .i64 x.weights.an],.int .i64 1]) (by simp [results,Tryz.results160,go_sem, *]) rfl ?_
 exact Gi):P:=h
theorem Gk {P:Prop} (h:P:=by
 have cG:(fI k (d8 x n) x.O).length = x.O.length+1:=by rw [yX]
 obtain ⟨A9,c9,F9,hv9,SY,hF9⟩:=am.OD (xs:=fI k (d8 x n) x.O) OE (lv.out.br (fun y hy=>oI.out y (jK.out y hy).1) J) (fun q hq hm=>by have:=(lw.out.lt q hq).1;have:=(jK.out q hm).1;omega);rw [cG] at hv9 SY;simp only [Value.slice.injEq,true_and] at hv9;obtain ⟨rfl,rfl⟩:=hv9
 have pu:=I (am.OF (tI.out.br (fun y hy=>oI.out y (by have:=oR.out y hy;omega)) J) SY (fun y hm hy=>by
  rcases hF9 y hy with h9 | h9
  ·exact (jK.out y h9).2.2 hm
  ·have:=(lw.out.lt y h9).1;have:=oR.out y hm;omega) (show bi (x.next+1) by unfold bi;omega) iV gI iW)
 have oS:=I (show ∀y∈Gh++F9,y≠w1.heap.size from fun y hy=>by
  rcases List.mem_append.1 hy with hy | hy
  ·have:=oR.out y hy;omega
  ·rcases hF9 y hy with h9 | h9
   ·exact (jK.out y h9).2.1
   ·have:=(lw.out.lt y h9).1;omega)
 have XA:=tL.out;clear SY hF9;try dsimp only
 iterate 90 (first | go_step | skip)
 refine bodyPost_ret (v:=.tuple #[.agg #[.slice dG x.Z.length bV,.slice (some ⟨g8,0,none⟩) (x.O.length+1) p8,.int .i64 (x.next+1),.int .i64 x.weights.pack,.int .i64 x.weights.af,.int .i64 x.weights.an],.int .i64 0]) (by simp [results,Tryz.results159,go_sem, *]) rfl ?_;rw [HF.out,← tM.out];first | refine ⟨[.slice dG x.Z.length bV,.slice (some ⟨g8,0,none⟩) (x.O.length+1) p8,.int .i64 (x.next+1),.int .i64 x.weights.pack,.int .i64 x.weights.af,.int .i64 x.weights.an],Gh++F9,rfl,?_,?_⟩ | refine ⟨[.slice dG x.Z.length bV,.slice (some ⟨g8,0,none⟩) (x.O.length+1) p8,.int .i64 (x.next+1),.int .i64 x.weights.pack,.int .i64 x.weights.af,.int .i64 x.weights.an],rfl,⟨Gh++F9,?_⟩,?_⟩
 ·exact tO
 ·exact qi):P:=h
theorem Gq {P:Prop} (h:P:=by
 have HF:=I (show gT x u = (x,1) by unfold gT;rw [hc,fW];simp);have HC:=I hc;have Du:=I fW;clear hc fW;go_enter Tryz.func112,Tryz.ntmps112;go_wp2_with fail
 refine (BO x _ _ _ (aZ h cg) HW.out).mono ?_;rintro e w1 ⟨lu,G1,rfl,jX,bk⟩;have dt:=jX.rd;obtain ⟨dG,bV,xq,dS,dJ,Bz,aw,hG1,oO,tq,wI,iV,gI,iW⟩:=aO dt;subst aw;clear hG1 dt;obtain ⟨da,eW⟩:=ay bk;have VQ:w.heap.size < w1.heap.size:=sq bk.size;have l0:w.heap.size+1 < w1.heap.size:=sq bk.size;have Yc:w.heap.size+1+1 < w1.heap.size:=sq bk.size;have fo:=jX.lt;go_wp2_with fail
 refine (qM x _ _ _ (aZ h cg) HW.out).mono ?_;rw [HC.out];rintro e w2 ⟨rfl,av⟩;obtain ⟨ce,cK⟩:=ay av;have VR:w.heap.size < w2.heap.size:=sq av.size;have l6:w.heap.size+1 < w2.heap.size:=sq av.size;have Yd:w.heap.size+1+1 < w2.heap.size:=sq av.size;have VT:w1.heap.size < w2.heap.size:=sq av.size;have bN:am w2 (w.heap.size+1+1+1) x [.slice dG x.Z.length bV,.slice dS x.O.length dJ,.int .i64 x.next,.int .i64 x.weights.pack,.int .i64 x.weights.af,.int .i64 x.weights.an] G1:=((jX.mono S').alloc _).ext av
 exact Gx):P:=h
theorem Gz {P:Prop} (h:P:=by
 rintro e w1 ⟨ds,G,rfl,hO,bk⟩;have hR:=hO.rd;obtain ⟨kM,kN,ND,ny,nC,TD,aw,hGr,NG,TF,TG,xI,uD,xJ⟩:=aO hR;subst aw;clear hGr hR;have cQ:=bk.size;simp at cQ;have XB:oG w1 (w.heap.size+1+1) [.slice none 0 0,.slice none 0 0,.int .i64 0,.int .i64 0,.int .i64 0,.int .i64 0]:=oG.ext (oG.vx w _ _ [.slice none 0 0,.slice none 0 0,.int .i64 0,.int .i64 0,.int .i64 0,.int .i64 0] 29) bk;have HO:=I (hO.mono (B':=w.heap.size+1+1+1) S');have av:Below w.heap.size w w1:=ah cg bk;clear hO bk h;try dsimp only
 iterate 8 go_step
 refine lr 29 _ _ rfl (w.heap.size+1+1) 0 [.slice kM R.Z.length kN,.slice ny R.O.length nC,.int .i64 R.next,.int .i64 R.weights.pack,.int .i64 R.weights.af,.int .i64 R.weights.an] [.slice none 0 0,.slice none 0 0,.int .i64 0,.int .i64 0,.int .i64 0,.int .i64 0] rfl rfl XB S' U' eu ?_;intro w2 YB OB;replace YB:oG w2 (w.heap.size+1+1) [.slice kM R.Z.length kN,.slice ny R.O.length nC,.int .i64 R.next,.int .i64 R.weights.pack,.int .i64 R.weights.af,.int .i64 R.weights.an]:=YB;try dsimp only [Act.put]
 go_wp2;refine bodyPost_ret (v:=.tuple #[.agg #[.slice kM R.Z.length kN,.slice ny R.O.length nC,.int .i64 R.next,.int .i64 R.weights.pack,.int .i64 R.weights.af,.int .i64 R.weights.an],.int .i64 cd]) (yc Tryz.results107 _ (w.heap.size+1+1) [.slice kM R.Z.length kN,.slice ny R.O.length nC,.int .i64 R.next,.int .i64 R.weights.pack,.int .i64 R.weights.af,.int .i64 R.weights.an] _ _ rfl rfl YB Tryz.underlying29 rfl U') rfl ?_
 exact FF):P:=h
theorem GA {P:Prop} (h:P:=by
 have cG:(fI k n x.Z).length = x.Z.length+1:=by rw [yX]
 obtain ⟨A9,c9,F9,hv9,SY,hF9⟩:=am.OD (xs:=fI k n x.Z) OE (lv.out.br (fun y hy=>oI.out y (jK.out y hy).1) J) (fun q hq hm=>by have:=(lw.out.lt q hq).1;have:=(jK.out q hm).1;omega);rw [cG] at hv9 SY;simp only [Value.slice.injEq,true_and] at hv9;obtain ⟨rfl,rfl⟩:=hv9
 have pu:=I (am.OF SY (tI.out.br (fun y hy=>oI.out y (by have:=mT.out y hy;omega)) J) (fun y hy=>by
  rcases hF9 y hy with h9 | h9
  ·exact (jK.out y h9).2.2
  ·have:=(lw.out.lt y h9).1;exact fun hm=>by have:=mT.out y hm;omega) wI iV gI iW)
 have oS:=I (show ∀y∈F9++Gp,y≠w1.heap.size from fun y hy=>by
  rcases List.mem_append.1 hy with hy | hy
  ·rcases hF9 y hy with h9 | h9
   ·exact (jK.out y h9).2.1
   ·have:=(lw.out.lt y h9).1;omega
  ·have:=mT.out y hy;omega)
 have XA:=tL.out;clear SY hF9;try dsimp only
 iterate 60 (first | go_step | skip)
 refine bodyPost_ret (v:=.tuple #[.agg #[.slice (some ⟨g8,0,none⟩) (x.Z.length+1) p8,.slice dS x.O.length dJ,.int .i64 x.next,.int .i64 x.weights.pack,.int .i64 x.weights.af,.int .i64 x.weights.an],.int .i64 0]) (by simp [results,Tryz.results160,go_sem, *]) rfl ?_;rw [HF.out,← tM.out];refine ⟨[.slice (some ⟨g8,0,none⟩) (x.Z.length+1) p8,.slice dS x.O.length dJ,.int .i64 x.next,.int .i64 x.weights.pack,.int .i64 x.weights.af,.int .i64 x.weights.an],F9++Gp,rfl,?_,?_⟩
 ·exact tO
 ·exact qi):P:=h
theorem tP {P:Prop} (h:P:=by
 refine aN ?_;intro wn hn;replace hn:=hn.out;go_wp2;refine ⟨⟨s1++[z],s2,jj+1,I DS,N',I Ye,I (fun z' hz=>?_),ah bS hn⟩,by simp [intOf];omega⟩;rcases List.mem_append.1 hz with hz | hz
 ·exact HN.out z' hz
 ·rw [List.mem_singleton.1 hz];exact HL.out):P:=h
theorem mU {P:Prop} (h:P:=by
 have hl7:yR.length = 7:=bd.len kG;have h2:List.take 7 (yR++don) = yR:=by rw [List.take_append_of_le_length J,List.take_of_length_le J]
 have h3:=congrArg (List.take 7) hdc;rw [h2] at h3;rw [← h3] at kG
 exact kG):P:=h
theorem tQ {P:Prop} (h:P:=by
 rw [HF.out]
 first
  | refine ⟨[.slice dG x.Z.length bV,.slice dS x.O.length dJ,.int .i64 x.next,.int .i64 x.weights.pack,.int .i64 x.weights.af,.int .i64 x.weights.an],G1,rfl,?_,?_⟩
  | refine ⟨[.slice dG x.Z.length bV,.slice dS x.O.length dJ,.int .i64 x.next,.int .i64 x.weights.pack,.int .i64 x.weights.af,.int .i64 x.weights.an],rfl,⟨G1,?_⟩,?_⟩
 ·try dsimp only
  refine am.mono (B:=w.heap.size+1+1) ?_ J;have hO:=HO.out;exact Yf
 ·have hB:=HB.out
  exact Yg):P:=h
theorem Rz {P:Prop} (h:P:=by
 refine aN ?_;intro wn hn;replace hn:=hn.out;obtain ⟨jz,kz⟩:=ay hn;have jA:w.heap.size < wn.heap.size:=sq hn.size;have pr:b' < wn.heap.size:=sq hn.size;try (have qa:wr.heap.size < wn.heap.size:=sq hn.size)
 have zq:=((aR.alloc (.cells #[.string x.O[j+1].aS.name,.slice fC x.O[j+1].aS.labels.length fD,.int .i64 x.O[j+1].aS.ax,.int .i64 x.O[j+1].aS.mem,.int .i64 x.O[j+1].aS.aD,.slice gB x.O[j+1].aS.ag.length gG,.slice bT x.O[j+1].aS.ae.length bU,.string x.O[j+1].on,.int .i64 x.O[j+1].seq] 48)).kept (grown_of hn) S')
 go_wp2_with (at_mapUpdate
              refine wpList_mapUpdate_own _ X _ _ _ 123 X 3 4 Oy Tryz.underlying123 _ wp.heap.size _ _ X zq ja _ _ _ X X (Maps.keyOf_int_mk Tryz.underlying3 (WalkArith.wf_i64 Ue)) _ [] (plainElem_bool Tryz.underlying4 true) ?_
              intro w5 bb JJ)
 exact ⟨⟨j+1+1,J,N',HN.out,Gn.out,Yj,(Below.grown (ah (ak U3 _) hn) JJ Yk (fun k hk=>by cases hk;exact Nat.le_refl _))⟩,by simp [intOf];omega⟩):P:=h
theorem tR {P:Prop} (h:P:=by
 go_enter Tryz.func20,Tryz.ntmps20;go_wp2_with fail
 rw [qk.out]
 go_wp2_with (first
  | (go_at_call 52;refine (kH x.next 1 1000000000 _).mono ?_;rw [Jf.out];rintro e w1 ⟨rfl,mB⟩;simp only [← mB];clear mB w1)
  | (go_at_call 53;refine (pW x.weights.pack x.weights.af x.weights.an _).mono ?_;rw [Du.out];rintro e w2 ⟨rfl,av⟩;obtain ⟨ce,cK⟩:=ay av;have cD:w.heap.size < w2.heap.size:=(sq av.size)))
 go_ret
 exact ⟨by rw [HF.out];rfl,bs⟩):P:=h
theorem tS {P:Prop} (h:P:=by
 go_enter Tryz.func28,Tryz.ntmps28;go_wp2_with fail
 rw [qk.out]
 go_wp2_with (first
  | (go_at_call 68;refine (jc x.next 1 1000000000 _).mono ?_;rw [Jf.out];rintro e w1 ⟨rfl,mB⟩;simp only [← mB];clear mB w1)
  | (go_at_call 69;refine (pU x.weights.pack x.weights.af x.weights.an _).mono ?_;rw [Du.out];rintro e w2 ⟨rfl,av⟩;obtain ⟨ce,cK⟩:=ay av;have cD:w.heap.size < w2.heap.size:=(sq av.size)))
 go_ret
 exact ⟨by rw [HF.out];rfl,bs⟩):P:=h
theorem RA {P:Prop} (h:P:=by
 refine aN ?_;intro wn hn;replace hn:=hn.out;obtain ⟨jz,kz⟩:=ay hn;have jA:w.heap.size < wn.heap.size:=sq hn.size;have pr:b < wn.heap.size:=sq hn.size;try (have qa:wr.heap.size < wn.heap.size:=sq hn.size)
 have zq:=((aR.alloc (.cells #[.string x.O[0].aS.name,.slice fC x.O[0].aS.labels.length fD,.int .i64 x.O[0].aS.ax,.int .i64 x.O[0].aS.mem,.int .i64 x.O[0].aS.aD,.slice gB x.O[0].aS.ag.length gG,.slice bT x.O[0].aS.ae.length bU,.string x.O[0].on,.int .i64 x.O[0].seq] 48)).kept (grown_of hn) S')
 go_wp2_with (at_mapUpdate
              refine wpList_mapUpdate_own _ X _ _ _ 123 X 3 4 Oy Tryz.underlying123 _ wp.heap.size _ _ X zq ja _ _ _ X X (Maps.keyOf_int_mk Tryz.underlying3 (WalkArith.wf_i64 Ue)) _ [] (plainElem_bool Tryz.underlying4 true) ?_
              intro w5 bb JJ)
 exact ⟨⟨0+1,J,N',HN.out,Gn.out,Yj,(Below.grown (ah (ak U3 _) hn) JJ Yk (fun k hk=>by cases hk;exact Nat.le_refl _))⟩,by simp [intOf];omega⟩):P:=h
theorem tT {P:Prop} (h:P:=by
 rw [HF.out]
 first
  | refine ⟨[.slice dG x.Z.length bV,.slice dS x.O.length dJ,.int .i64 x.next,.int .i64 x.weights.pack,.int .i64 x.weights.af,.int .i64 x.weights.an],G1,rfl,?_,?_⟩
  | refine ⟨[.slice dG x.Z.length bV,.slice dS x.O.length dJ,.int .i64 x.next,.int .i64 x.weights.pack,.int .i64 x.weights.af,.int .i64 x.weights.an],rfl,⟨G1,?_⟩,?_⟩
 ·try dsimp only
  refine am.mono (B:=w.heap.size+1+1) ?_ J;exact Yq
 ·exact qi):P:=h
theorem GB {P:Prop} (h:P:=by
 try dsimp only [Act.put]
 iterate 5 go_step
 refine lr 29 _ _ rfl (w.heap.size+1+1) 0 [.slice kM R.Z.length kN,.slice ny R.O.length nC,.int .i64 R.next,.int .i64 R.weights.pack,.int .i64 R.weights.af,.int .i64 R.weights.an] [.slice none 0 0,.slice none 0 0,.int .i64 0,.int .i64 0,.int .i64 0,.int .i64 0] rfl rfl Yr S' U' eu ?_;intro w3 ZB OZ;replace ZB:oG w3 (w.heap.size+1+1) [.slice kM R.Z.length kN,.slice ny R.O.length nC,.int .i64 R.next,.int .i64 R.weights.pack,.int .i64 R.weights.af,.int .i64 R.weights.an]:=ZB;try dsimp only [Act.put]
 go_wp2;refine bodyPost_ret (v:=.tuple #[.agg #[.slice kM R.Z.length kN,.slice ny R.O.length nC,.int .i64 R.next,.int .i64 R.weights.pack,.int .i64 R.weights.af,.int .i64 R.weights.an],.int .i64 cd]) (yc Tryz.results66 _ (w.heap.size+1+1) [.slice kM R.Z.length kN,.slice ny R.O.length nC,.int .i64 R.next,.int .i64 R.weights.pack,.int .i64 R.weights.af,.int .i64 R.weights.an] _ _ rfl rfl ZB Tryz.underlying29 rfl U') rfl ?_
 exact ⟨[.slice kM R.Z.length kN,.slice ny R.O.length nC,.int .i64 R.next,.int .i64 R.weights.pack,.int .i64 R.weights.af,.int .i64 R.weights.an],G,rfl,(((HO.out.only OB (fun b hb=>by have:=OG.out b hb;omega))).only OZ (fun b hb=>by have:=HO.out.base b hb;omega)).mono (B':=w.heap.size) J,GC (GC HB.out OB J) OZ J⟩):P:=h
theorem tU {P:Prop} (h:P:=by
 intro wq hq;have dc:=(aB hq).1;have lJ:=(aB hq).2;go_simp
 first
  | exact ⟨hq,rfl⟩
  | exact ⟨aQ hq _,rfl⟩
  | (first | (refine (OH.out _ sE).mono ?_;rintro e w2 ⟨rfl,av⟩;exact ⟨rfl,aI hq av⟩) | (refine (mC.out _ sE).mono ?_;rintro e w2 ⟨rfl,av⟩;exact ⟨rfl,aI hq av⟩))
  | (simp only [↓IntWalk.iteOmega];exact ⟨hq,rfl⟩)):P:=h
theorem yZ {P:Prop} (h:P:=by
 intro wq hq;have dc:=(aB hq).1;have lJ:=(aB hq).2;go_simp
 first
  | exact ⟨hq,rfl⟩
  | (refine (Kq x p _ _ _ _ z _ (aJ Ys.out (ah pv.out hq)) (aJ Yv.out (ah pv.out hq)) HW.out Uc.out).mono ?_;rintro e wz ⟨rfl,dm⟩;rw [GD.out];exact ⟨rfl,aI hq dm⟩)
  | (simp only [↓IntWalk.iteOmega];exact ⟨hq,rfl⟩)):P:=h
theorem GF {P:Prop} (h:P:=by
 have HF:=I (show oH nm x p = 3 by rw [sF.out,if_neg (by simp [hS]),if_neg hu,if_pos eW]);have HS:=I hS;clear hS;have H1:=I he1;clear he1;go_wp2_with fail
 refine (Ol.out _ bs).mono ?_;rw [HS.out];rintro e w4 ⟨rfl,bO⟩;obtain ⟨ei,hf4⟩:=ay bO;have Wy:w.heap.size < w4.heap.size:=(sq bO.size);have DM:w.heap.size+1 < w4.heap.size:=(sq bO.size);have Rl:w3.heap.size < w4.heap.size:=(sq bO.size);go_wp2_with fail
 refine (Om.out _ bs).mono ?_;rintro e w5 ⟨rfl,bo⟩;obtain ⟨lp,ki⟩:=ay bo;have Es:w.heap.size < w5.heap.size:=(sq bo.size);have IV:w.heap.size+1 < w5.heap.size:=(sq bo.size);have ir:w3.heap.size < w5.heap.size:=(sq bo.size);go_wp2_with fail
 refine (oQ a p.ax _ ha kQ).mono ?_;rw [H1.out];rintro e w6 ⟨rfl,dv⟩;obtain ⟨Oi,Xe⟩:=ay dv;have sC:w.heap.size < w6.heap.size:=(sq dv.size);have hy6:w.heap.size+1 < w6.heap.size:=(sq dv.size);have pt:w3.heap.size < w6.heap.size:=(sq dv.size)
 exact yf):P:=h
theorem y8 {P:Prop} (h:P:=by
 obtain ⟨u,b⟩:=R;rintro e w5 ⟨A6,c6,G6,rfl,iD,dv,Jg⟩;have jb:=I (gS.out.ext dv);have qm:=I (kB.out.ext dv);have Yw:=I (GG.out.ext dv);replace Jg:=I Jg;have sH:=I (nQ.out.oT dv J);replace iD:=I (iD.mono (B':=w.heap.size) J);have RC:(k:Int)+1≤2:=by omega
 exact GH):P:=h
theorem GJ {P:Prop} (h:P:=by
 have eM:∀y,y < wn.heap.size→w8.heap[y]? = wn.heap[y]?:=fun y hy=>(cW.block y J (fun e=>by have:=(nK.lt y e.symm).1;omega)).trans (bF.block y hy);have y9:=cW.size;obtain ⟨FI,hOI,hFI⟩:=y'.out.ins za.out HDJ.out jj (by have:=cZ.out;omega);have GM:∀y∈FI,y < wn.heap.size:=fun y hy=>by
  rcases hFI y hy with h9 | h9
  ·exact y'.out.lt y h9
  ·exact za.out.lt y h9
 refine ⟨⟨k+1,N+1,g8,p8,_,FI,J,J,N',rfl,I ?_,I ?_,I (vP Le (B':=w.heap.size) jh.out.size),I ?_,I ?_,?_⟩,by simp [intOf];omega⟩
 ·rw [Jf.out,HI.out,yX,cZ.out]
 ·intro j hj nU;exact GO
 ·rw [Jf.out,HI.out];exact hOI.br (fun y hy=>eM y (GM y hy)) J
 ·exact fun hm=>by have:=GM g8 hm;omega
 ·exact Below.grown (jh.out.trans (bF.mono jh.out.size)) cW (by have:=jh.out.size;omega) (fun q hq=>by have:=(nK.lt q hq).1;have:=jh.out.size;omega)):P:=h
theorem GP {P:Prop} (h:P:=by
 have rr:=HS.out.bw.lt;go_wp2_with fail
 refine (RE x _ _ v2 (Oo HX.out HS.out.aM) fb dx).mono ?_;rintro e w8 ⟨Rv,G8,rfl,sV,iN⟩;have T8:=HS.out.ext iN;have SY:=sV;obtain ⟨qh,aHA,aJp,aIQ,aIR,aCm,ayd,hF9,aye,aJq,aAR,aAS,aDQ,aCn⟩:=iy sV.rd;subst ayd;clear hF9 sV;obtain ⟨r0,r1,r2,r3,r4,r5⟩:=cM T8.rb;have rf:=T8.rb.fz;have rl:=T8.rb.lt;have mR:=I SY;have DP:=I T8;have Ry:w.heap.size+1 < v2.heap.size:=HS.out.rb.lt;clear SY T8 iN;go_wp2_with fail
 try dsimp only
 iterate 60 (first | go_step | skip)
 refine bodyPost_ret (v:=.tuple #[.agg #[.string x.name,.slice qh x.labels.length aHA,.int .i64 x.ax,.int .i64 x.mem,.int .i64 x.ar,.slice aIQ x.aT.length aIR],.bool false]) (by simp [results,Tryz.results188,go_sem, *]) rfl ⟨[.string x.name,.slice qh x.labels.length aHA,.int .i64 x.ax,.int .i64 x.mem,.int .i64 x.ar,.slice aIQ x.aT.length aIR],G8,by rw [nL.out];try rfl,?_,?_⟩
 ·rw [nL.out];refine am.mono (B:=v2.heap.size) ?_ J;exact DQ
 ·exact Ow):P:=h
theorem GQ {P:Prop} (h:P:=by
 intro wq hq;have dc:=(aB hq).1;have lJ:=(aB hq).2;go_simp
 first
  | exact ⟨hq,rfl⟩
  | exact ⟨aQ hq _,rfl⟩
  | ((simp only [ft];first | (with_reducible refine Calls.mono (OI.out _ hq.out) ?_;rintro e wz ⟨rfl,dm⟩;exact ⟨rfl,aI hq dm⟩) | (with_reducible refine Calls.mono (RK.out _ hq.out) ?_;rintro e wz ⟨rfl,dm⟩;exact ⟨rfl,aI hq dm⟩)))
  | (simp only [↓IntWalk.iteOmega];exact ⟨hq,rfl⟩)):P:=h
theorem GS {P:Prop} (h:P:=by
 rcases h0 with ⟨hl,⟨rfl,hn⟩ | ⟨g,aL,b5,rfl,hb,hh,fp,hm,cT,ht⟩⟩
 ·obtain rfl:xs = []:=List.eq_nil_of_length_eq_zero hn;exact ⟨none,0,[],rfl,⟨Sl.nil w none 0 (Nat.zero_le _),List.nodup_nil,(fun b hb=>by cases hb),(fun b hb=>by cases hb)⟩,(fun b hb=>by cases hb)⟩
 ·have hg:g < w.heap.size:=by
   exact GV
  refine ⟨_,aL,g :: F,rfl,⟨⟨_,aL,F,ds,rfl,fp,hm,h.rd,.inr ⟨g,0,rfl,rfl,hg,fun j u hu=>?_⟩⟩,?_,?_,?_⟩,fun y hy=>?_⟩
  ·rw [Nat.zero_add,cell_of_row w g j b5 e (0,0) hh];exact zb
  ·rw [List.nodup_cons];exact ⟨cq g rfl,h.nodup⟩
  ·intro b d9;rcases List.mem_cons.1 d9 with rfl | d9
   ·exact hb
   ·exact h.base b d9
  ·exact GW
  ·rcases List.mem_cons.1 hy with rfl | hy
   ·exact .inr rfl
   ·exact .inl hy):P:=h
theorem ze {P:Prop} (h:P:=by
 rw [HF.out]
 first
  | refine ⟨[.slice dG x.Z.length bV,.slice dS x.O.length dJ,.int .i64 x.next,.int .i64 x.weights.pack,.int .i64 x.weights.af,.int .i64 x.weights.an],G1,rfl,?_,?_⟩
  | refine ⟨[.slice dG x.Z.length bV,.slice dS x.O.length dJ,.int .i64 x.next,.int .i64 x.weights.pack,.int .i64 x.weights.af,.int .i64 x.weights.an],rfl,⟨G1,?_⟩,?_⟩
 ·try dsimp only
  refine am.mono (B:=w.heap.size+1+1) ?_ J;have hO:=gH.out;exact Yx
 ·have hB:=RL.out
  exact Yy):P:=h
theorem zg {P:Prop} (h:P:=by
 simp only [Value.slice.injEq,true_and] at kj;obtain ⟨RM,cP⟩:=kj;subst RM cP;have gz:=I hO3;clear hO3;go_wp2_with fail
 refine jN.out.mono ?_;rw [mD.out];rintro e w4 ⟨rfl,bO⟩;have oV:=I bO;clear bO;go_wp2;go_ret2
 exact ⟨A2,c2,G3,by rw [HR.out];try rfl,by rw [HR.out];exact (gz.out.ext kD.out).ext oV.out,tW.out.trans (oV.out.mono tW.out.size),fun hh=>absurd hh Hb⟩):P:=h
theorem zj {P:Prop} (h:P:=by
 intro wq hq;have dc:=(aB hq).1;have lJ:=(aB hq).2;go_simp
 first
  | exact ⟨hq,rfl⟩
  | exact ⟨aQ hq _,rfl⟩
  | (first | (refine (zV _ _ J).mono ?_;rintro e wz ⟨rfl,nV⟩;exact ⟨rfl,aI hq nV⟩) | (refine (wE _ _ qe).mono ?_;rintro e wz ⟨rfl,nV⟩;exact ⟨rfl,aI hq nV⟩))
  | (simp only [↓IntWalk.iteOmega];exact ⟨hq,rfl⟩)):P:=h
theorem qn {P:Prop} (h:P:=by
 intro j u hu;rw [Addr.add];have hc:=cell_of_row (w.alloc (.cells cs.toArray e)) w.heap.size j cs.toArray e (0,0) (heap_alloc_new w _);split
 ·rename_i hj;subst hj;rw [hc];simpa using hu
 ·simp only [Nat.zero_add];rw [hc];simpa using hu):P:=h
theorem qq {P:Prop} (h:P:=by
 exact Below.grown (ah ly.out bF) cW awR (fun q hq=>by have:=(nK.lt q hq).1;have:=ly.out.size;omega)):P:=h
theorem Hc {P:Prop} (h:P:=by
 rw [mD.out];rintro e w4 ⟨rfl,bO⟩;have oV:=I bO;clear bO;go_wp2;go_ret2
 exact ⟨some ⟨g,0,none⟩,aL,G4,by rw [HR.out,cZ.out];try rfl,by rw [HR.out];exact kB.out.ext oV.out,tW.out.trans (oV.out.mono tW.out.size),fun _=>lz.out.ext oV.out⟩):P:=h
theorem l7 {P:Prop} (h:P:=by
 clear gL hmul hz;go_wp2;go_returns
 exact ⟨by rw [HF.out,HG.out];unfold OJ;first | rfl | simp,rfl⟩):P:=h
theorem Hd {P:Prop} (h:P:=by
 exact Gi):P:=h
theorem ua {P:Prop} (h:P:=by
 exact ⟨[.slice kM x.Z.length kN,.slice ny x.O.length nC,.int .i64 x.next,.int .i64 x.weights.pack,.int .i64 x.weights.af,.int .i64 x.weights.an],G,rfl,(HO.out.only OB (fun b hb=>by have:=HO.out.base b hb;omega)).mono (B':=w.heap.size) J,GC av OB J⟩):P:=h
theorem Hh {P:Prop} (h:P:=by
 rw [HK.out];rintro e w2 ⟨rfl,av⟩;obtain ⟨ce,cK⟩:=ay av;have cD:w.heap.size < w2.heap.size:=by have:=av.size;simp at this;omega
 have lV:w2.cell? ⟨w.heap.size,1,none⟩ = some (.int .i64 x.op):=by rw [ce _ _ S',cell_of_row _ _ _ _ _ _ (heap_alloc_new w _)];rfl
 have mA:w2.cell? ⟨w.heap.size,2,none⟩ = some (.slice jy x.values.length ji):=by rw [ce _ _ S',cell_of_row _ _ _ _ _ _ (heap_alloc_new w _)];rfl
 have eB:Below w.heap.size w w2:=bs;clear ce cK;have Yz:((x.values.length:Int) == 0) = true:=by simp [H0.out]
 go_wp2;go_ret
 exact ⟨by rw [HF.out];first | rfl | simp_all,eB⟩):P:=h
theorem zm {P:Prop} (h:P:=by
 refine ⟨⟨c1,c2,F1,F2,rfl,rfl,h1.rd,h2.rd⟩,?_,?_,?_⟩
 ·rw [List.nodup_append];exact ⟨h1.nodup,h2.nodup,fun a ha b hb e=>hd a ha (e ▸ hb)⟩
 ·intro b hb;rcases List.mem_append.1 hb with hb | hb
  ·exact h1.base b hb
  ·exact h2.base b hb
 ·intro b hb;rcases List.mem_append.1 hb with hb | hb
  ·exact h1.plain b hb
  ·exact h2.plain b hb):P:=h
theorem ma {P:Prop} (h:P:=by
 clear gL iS hmul hz
 exact zo):P:=h
theorem zp {P:Prop} (h:P:=by
 simpa only [List.map_append,List.map_cons,List.map_nil,List.append_assoc,List.cons_append,List.nil_append] using this):P:=h
theorem Hi {P:Prop} (h:P:=by
 intro wq hq;have dc:=(aB hq).1;have lJ:=(aB hq).2;go_simp
 first
  | exact ⟨hq,rfl⟩
  | exact ⟨aQ hq _,rfl⟩
  | ((refine (ZY a.Z[k] b.Z[k] _ _ _ _ _ (aJ hr hq.out) (aJ cN hq.out) (HXH.out _ (List.getElem_mem ..)) (HYH.out _ (List.getElem_mem ..))).mono ?_;rw [HE.out];rintro e wz ⟨rfl,dm⟩;exact ⟨rfl,aI hq dm⟩))
  | (simp only [↓IntWalk.iteOmega];exact ⟨hq,rfl⟩)):P:=h
theorem kF {P:Prop} (h:P:=by
 rw [← h9]
 congr 1 <;> first | (push_cast;omega) | (push_cast;done) | (simp;done)):P:=h
theorem Hj {P:Prop} (h:P:=by
 intro wq hq;have dc:=(aB hq).1;have lJ:=(aB hq).2;go_simp
 first
  | exact ⟨hq,rfl⟩
  | exact ⟨aQ hq _,rfl⟩
  | ((refine (TN y z _ _ _ _ wq (aJ zr.out (ah pv.out hq)) (aJ YA.out (ah pv.out hq)) YD.out YI.out).mono ?_;rw [HL.out];rintro e wz ⟨rfl,dm⟩;exact ⟨rfl,aI hq dm⟩))
  | (simp only [↓IntWalk.iteOmega];exact ⟨hq,rfl⟩)):P:=h
theorem Hk {P:Prop} (h:P:=by
 intro wq hq;have dc:=(aB hq).1;have lJ:=(aB hq).2;go_simp
 first
  | exact ⟨hq,rfl⟩
  | exact ⟨aQ hq _,rfl⟩
  | (first | (refine (zV x.name _ J).mono ?_;rintro e wz ⟨rfl,nV⟩;exact ⟨rfl,aI hq nV⟩) | (refine (Md x.labels _ _ _ _ (dO.ext (ah eB hq)) ek Zb.out).mono ?_;rintro e wz ⟨rfl,nV⟩;exact ⟨rfl,aI hq nV⟩) | (refine (wE _ _ qe).mono ?_;rintro e wz ⟨rfl,nV⟩;exact ⟨rfl,aI hq nV⟩))
  | (simp only [↓IntWalk.iteOmega];exact ⟨hq,rfl⟩)):P:=h
theorem Hm {P:Prop} (h:P:=by
 refine bodyPost_ret (v:=.tuple #[.agg #[.slice none 0 0,.slice none 0 0,.int .i64 0,.int .i64 0,.int .i64 0,.int .i64 0],.bool false]) (by simp [results,Tryz.results9,go_sem, *]) rfl ?_;rw [HF.out];have QX:=HB.out
 first
  | refine ⟨[.slice none 0 0,.slice none 0 0,.int .i64 0,.int .i64 0,.int .i64 0,.int .i64 0],[],rfl,?_,?_⟩
  | refine ⟨[.slice none 0 0,.slice none 0 0,.int .i64 0,.int .i64 0,.int .i64 0,.int .i64 0],rfl,⟨[],?_⟩,?_⟩
 ·exact am.ZW _ _
 ·exact DW):P:=h
theorem zt {P:Prop} (h:P:=by
 exact yf):P:=h
theorem Hp {P:Prop} (h:P:=by
 intro wq hq;have dc:=(aB hq).1;have lJ:=(aB hq).2;go_simp
 first
  | exact ⟨hq,rfl⟩
  | exact ⟨aQ hq _,rfl⟩
  | ((refine (TN z y _ _ _ _ wq (aJ YA.out (ah pv.out hq)) (aJ zr.out (ah pv.out hq)) YI.out YD.out).mono ?_;rw [HL.out];rintro e wz ⟨rfl,dm⟩;exact ⟨rfl,aI hq dm⟩))
  | (simp only [↓IntWalk.iteOmega];exact ⟨hq,rfl⟩)):P:=h
theorem oW {P:Prop} (h:P:=by
 go_wp2
 all_goals
  go_ret
  exact ⟨by first | rfl | simp_all,bs⟩):P:=h
theorem Hs {P:Prop} (h:P:=by
 refine aN ?_;intro wn hn;replace hn:=hn.out;go_wp2
 ·rename_i cq;go_ret
  refine ⟨?_,ah zv hn⟩;rw [HF.out,nP (k+1) YJ HL.out];rfl
 ·exact Hu):P:=h
theorem Hv {P:Prop} (h:P:=by
 intro wq hq;have dc:=(aB hq).1;have lJ:=(aB hq).2;go_simp
 first
  | exact ⟨hq,rfl⟩
  | exact ⟨aQ hq _,rfl⟩
  | (first | (refine (zW _ _ J).mono ?_;rintro e wz ⟨rfl,nV⟩;exact ⟨rfl,aI hq nV⟩) | (refine (uP _ _ qe).mono ?_;rintro e wz ⟨rfl,nV⟩;exact ⟨rfl,aI hq nV⟩))
  | (simp only [↓IntWalk.iteOmega];exact ⟨hq,rfl⟩)):P:=h
theorem Hx {P:Prop} (h:P:=by
 intro wq hq;have dc:=(aB hq).1;have lJ:=(aB hq).2;go_simp
 first
  | exact ⟨hq,rfl⟩
  | exact ⟨aQ hq _,rfl⟩
  | ((refine (YK z y _ _ _ _ wq (RN qr.out OK.out wq) (RN qr.out ON.out wq)).mono ?_;rw [HL.out];rintro e wz ⟨rfl,dm⟩;exact ⟨rfl,aI hq dm⟩))
  | (simp only [↓IntWalk.iteOmega];exact ⟨hq,rfl⟩)):P:=h
theorem Hy {P:Prop} (h:P:=by
 intro wq hq;have dc:=(aB hq).1;have lJ:=(aB hq).2;go_simp
 first
  | exact ⟨hq,rfl⟩
  | exact ⟨aQ hq _,rfl⟩
  | ((refine (YL z y _ _ _ _ wq (RO qr.out OK.out wq) (RO qr.out ON.out wq)).mono ?_;rw [HL.out];rintro e wz ⟨rfl,dm⟩;exact ⟨rfl,aI hq dm⟩))
  | (simp only [↓IntWalk.iteOmega];exact ⟨hq,rfl⟩)):P:=h
theorem Hz {P:Prop} (h:P:=by
 intro wq hq;have dc:=(aB hq).1;have lJ:=(aB hq).2;go_simp
 first
  | exact ⟨hq,rfl⟩
  | exact ⟨aQ hq _,rfl⟩
  | (refine (Oa x p _ _ _ _ x.Z[k].name _ (aJ h YN) (aJ h' YN) HW.out Uc.out).mono ?_;rw [OP.out];rintro e w2 ⟨rfl,av⟩;exact ⟨rfl,aI hq av⟩)
  | (simp only [↓IntWalk.iteOmega];exact ⟨hq,rfl⟩)):P:=h
theorem H9 {P:Prop} (h:P:=by
 rw [Nat.zero_add,cell_of_row w g j b5 e (0,0) hh]
 exact zb):P:=h
theorem Ia {P:Prop} (h:P:=by
 intro wq hq;have dc:=(aB hq).1;have lJ:=(aB hq).2;go_simp
 first
  | exact ⟨hq,rfl⟩
  | exact ⟨aQ hq _,rfl⟩
  | (refine YO (v:=.bool (Aq z y)) ?_ hq;unfold Aq;repeat' split;all_goals simp [*])
  | (simp only [↓IntWalk.iteOmega];exact ⟨hq,rfl⟩)):P:=h
theorem If {P:Prop} (h:P:=by
 intro wq hq;have dc:=(aB hq).1;have lJ:=(aB hq).2;go_simp
 first
  | exact ⟨hq,rfl⟩
  | exact ⟨aQ hq _,rfl⟩
  | (refine YO (v:=.bool (oP z y)) ?_ hq;unfold oP;repeat' split;all_goals simp [*])
  | (simp only [↓IntWalk.iteOmega];exact ⟨hq,rfl⟩)):P:=h
theorem zw {P:Prop} (h:P:=by
 simp only [Value.slice.injEq,true_and] at kj;obtain ⟨RM,cP⟩:=kj;subst RM cP;have HO:=I hO3;clear hO3 aR dq px;go_wp2;go_ret2
 exact ⟨A2,c2,G3,by rw [HR.out];try rfl,by rw [HR.out];exact HO.out,av,fun hh=>absurd hh Hb⟩):P:=h
theorem ub {P:Prop} (h:P:=by
 rw [Jf.out,HI.out,List.length_append,List.length_cons,HJ.out];have:=gU.out;omega):P:=h
theorem Ii {P:Prop} (h:P:=by
 intro wq hq;have dc:=(aB hq).1;have lJ:=(aB hq).2;go_simp
 first
  | exact ⟨hq,rfl⟩
  | exact ⟨aQ hq _,rfl⟩
  | (first | (refine (YP.out _ (ah eB hq)).mono ?_;rintro e w3 ⟨rfl,bj⟩;exact ⟨rfl,aI hq bj⟩) | (refine (acy _ _ J J).mono ?_;rw [HM.out];rintro e w3 ⟨rfl,rfl⟩;exact ⟨rfl,hq⟩))
  | (simp only [↓IntWalk.iteOmega];exact ⟨hq,rfl⟩)):P:=h
theorem Ij {P:Prop} (h:P:=by
 refine ⟨0,[],[],Nat.zero_le _,rfl,?_,⟨rfl,rfl⟩,?_,ak (ak (aj _) _) _⟩
 ·have:=World.ownsRow_made (base:=w.heap.size+1) (e:=46) (size:=7) (w.alloc (.cells #[.slice bG x.Z.length bD,.slice dn x.O.length bW,.int .i64 x.next,.int .i64 x.weights.pack,.int .i64 x.weights.af,.int .i64 x.weights.an] 29)) #[] 0 S' ja rfl;simpa [F7] using this
 ·exact zx):P:=h
theorem Ik {P:Prop} (h:P:=by
 have HF:=I (agS ap hb);clear hb;rcases hr with hr | ⟨hr,fc⟩ | ⟨hr,fc⟩ | ⟨hr,fc⟩ | ⟨hr,fc⟩ | hr
 all_goals
  have cq:((s[k].toNat:Int) != 45) = true:=(by simp;omega);have uc:((s[k].toNat:Int) == 45) = false:=(by simp;omega);go_wp2
  all_goals first
   | (go_ret;exact ⟨by rw [HF.out];rfl,bs⟩)
   | (exfalso;rename_i hx;simp at hx;omega)):P:=h
theorem Il {P:Prop} (h:P:=by
 intro wq hq;have dc:=(aB hq).1;have lJ:=(aB hq).2;go_simp
 first
  | exact ⟨hq,rfl⟩
  | (refine (ajp y r _).mono ?_;rw [HL.out];rintro e wz ⟨rfl,dm⟩;exact ⟨rfl,aI hq dm⟩)
  | (simp only [↓IntWalk.iteOmega];exact ⟨hq,rfl⟩)):P:=h
theorem Im {P:Prop} (h:P:=by
 exact ((((((((((((((U3.out.new (Nat.le_refl _) 0 _).new (Nat.le_refl _) 1 _).new (Nat.le_refl _) 2 _).new (Nat.le_refl _) 3 _).new (Nat.le_refl _) 4 _).new (Nat.le_refl _) 5 _).new (Nat.le_refl _) 6 _).new (Nat.le_refl _) 7 _).new (Nat.le_refl _) 8 _).new (Nat.le_refl _) 9 _).new (Nat.le_refl _) 10 _).new (Nat.le_refl _) 11 _).new (Nat.le_refl _) 12 _).new (Nat.le_refl _) 13 _)):P:=h
theorem zy {P:Prop} (h:P:=by
 go_enter Tryz.func120,Tryz.ntmps120;go_wp2_with fail
 refine Io.out.mono ?_;rw [HV.out];rintro e w2 ⟨rfl,av⟩;go_wp2;go_returns
 exact ⟨by rw [HF.out];rfl,avE⟩):P:=h
theorem Ip {P:Prop} (h:P:=by
 unfold Ld;rw [List.take_length,sI];unfold TQ Bh;rw [List.take_length,nW,sI];have e:∀n:ba,db (YZ n) = ST n.key++(VT n.op++(VT n.values.length++n.values.flatMap ST)):=fun n=>by
  unfold YZ MI;rw [List.take_length,sI];unfold MJ;simp only [nW,List.append_assoc];rfl
 simp only [e];unfold RF UE;simp only [nW,List.append_assoc]
 rfl):P:=h
theorem Iq {P:Prop} (h:P:=by
 have HK:=I bx;clear bx;go_wp2;go_ret
 have h1:=Heq.out;rw [HK.out,List.take_length,HL.out,List.take_length] at h1
 exact ⟨by rw [HF.out,h1];rfl,zv⟩):P:=h
theorem Ir {P:Prop} (h:P:=by
 go_wp2
 exact ⟨⟨k+1,N,g,aL,J,J,N',rfl,I YQ,by rw [Jf.out,HI.out];exact mG gM.out (ah bS hn),ah e9.out (ah bS hn)⟩,by simp [intOf];omega⟩):P:=h
theorem Is {P:Prop} (h:P:=by
 exact GV):P:=h
theorem It {P:Prop} (h:P:=by
 intro wq hq;have dc:=(aB hq).1;have lJ:=(aB hq).2;go_simp
 first
  | exact ⟨hq,rfl⟩
  | fail
  | (simp only [↓IntWalk.iteOmega];exact ⟨hq,rfl⟩)):P:=h
theorem Iu {P:Prop} (h:P:=by
 rcases List.mem_append.1 hz with hz | hz
 ·exact HIS.out z (by rw [HE.out];exact List.mem_append_left _ hz)
 ·rcases List.mem_cons.1 hz with rfl | hz
  ·exact ap
  ·exact HIS.out z (by rw [HE.out];exact List.mem_append_right _ hz)):P:=h
theorem Iv {P:Prop} (h:P:=by
 refine ⟨by first | (rw [HF.out];done) | (rw [HF.out];rfl) | rfl | (simp only [HF.out];rfl),?_,?_⟩
 ·exact (by repeat (first | with_reducible exact YR.out | with_reducible refine zk.bE ?_ J _ _))
 ·exact (by repeat (first | with_reducible exact HU.out | with_reducible refine nN.xZ ?_ YS _))):P:=h
theorem Ix {P:Prop} (h:P:=by
 refine ⟨0,Nat.zero_le _,rfl,?_,?_,?_,ak (ak (aj _) _) _⟩
 ·exact (World.ownsRow_made w #[] 0 (Nat.le_refl _) ja rfl).alloc _
 ·have:=World.ownsRow_made (base:=w.heap.size) (e:=3) (size:=1) (w.alloc (.cells #[] 3)) #[] 0 S' ja rfl;simpa [iv] using this
 ·right;simp [Value.ownBlock]):P:=h
theorem Iy {P:Prop} (h:P:=by
 go_wp2;go_ret
 exact ⟨_,rfl,hb.size,⟨⟨0,q,_,heap_alloc_new _ _,J,by unfold bi;omega⟩,fun k hk=>(by
  obtain ⟨g,o,v,e,hg,hv,gN⟩:=cU k hk
  exact ⟨g,o,v,e,Nat.lt_of_lt_of_le hg hb.size,((ak hb _).cell (p:=⟨g,o+k,none⟩) hg).trans hv,gN⟩),hn⟩,ak hb _⟩):P:=h
theorem zA {P:Prop} (h:P:=by
 refine am.up (B':=B) (fun x:rZ=>(x.pack,x.af,x.an)) ?_ (Nat.le_refl _)
 exact am.cons (jL w p hp) (am.cons (jL w q hq) (am.dy (jL w f hf)))):P:=h
theorem qt {P:Prop} (h:P:=by
 rw [Bool.eq_iff_iff,decide_eq_true_eq,Wx,ByteArray.toList_eq,ByteArray.toList_eq]):P:=h
theorem zB {P:Prop} (h:P:=by
 have e:GX a b = none:=by unfold GX;rw [if_pos J]
 rw [e];go_enter Tryz.func195,Tryz.ntmps195;go_wp2;go_returns
 exact ⟨rfl,aj _⟩):P:=h
theorem zC {P:Prop} (h:P:=by
 have e:GX a b = none:=by unfold GX;rw [if_pos J]
 rw [e];go_enter Tryz.func172,Tryz.ntmps172;go_wp2;go_returns
 exact ⟨rfl,aj _⟩):P:=h
theorem IA {P:Prop} (h:P:=by
 go_wp2
 all_goals
  go_ret
  refine ⟨?_,rfl⟩;refine congrArg (fun b=>Ending.returned (Value.bool b)) ?_;show (_:Bool) = _;unfold GL;rw [Bool.eq_iff_iff];simp only [Bool.or_eq_true,Bool.and_eq_true,decide_eq_true_eq,Bool.false_eq_true,true_iff,false_iff]
  omega):P:=h
theorem qu {P:Prop} (h:P:=by
 rw [J5,← ByteArray.toList_eq,← ByteArray.toList_eq] at e
 simp [e] at h):P:=h
theorem qv {P:Prop} (h:P:=by
 simp only [Bool.and_eq_true,decide_eq_true_eq] at this
 exact ⟨J,J⟩):P:=h
theorem ud {P:Prop} (h:P:=by
 rintro (h1 | h1 | h1)
 ·exact .inr (.inl h1)
 ·exact .inl h1
 ·exact .inr (.inr h1)):P:=h
theorem zD {P:Prop} (h:P:=by
 obtain ⟨g,o,v,e,hg,hc,hv⟩:=h3 k hk
 exact ⟨g,o,v,e,hg,(World.cell?_of_block (Below.heap_setCell _ _ _ _ bz)).trans hc,hv⟩):P:=h
theorem zE {P:Prop} (h:P:=by
 rintro e w4 ⟨rfl,hw⟩;simp only [hw];clear hw w4;go_wp2;go_ret
 rw [HF.out]
 exact ⟨rfl,TR,cR.trans b8⟩):P:=h
theorem ue {P:Prop} (h:P:=by
 go_wp2;go_ret
 exact ⟨by rw [HF.out];first | rfl | simp_all,aE⟩):P:=h
theorem qx {P:Prop} (h:P:=by
 go_wp2_with (fail)
 go_ret
 exact ⟨by rw [HF.out];rfl,bs⟩):P:=h
theorem ui {P:Prop} (h:P:=by
 exact ⟨⟨g,0,none⟩,by simp [hc],rfl,fun q u hu=>by simp at hu⟩):P:=h
theorem oX {P:Prop} (h:P:=by
 rw [List.length_eq_zero_iff.1 h0] at hu
 simp at hu):P:=h
theorem uk {P:Prop} (h:P:=by
 go_wp2;go_ret
 exact ⟨xs,A',c',G,rfl,gH.out,Du.out,fN.out,py.out,pA.out⟩):P:=h
theorem ID {P:Prop} (h:P:=by
 have h1:=hall e he hb;have h0:=(mem_ready.1 hr).1;rw [OR] at h1;rcases Nat.lt_or_ge i aq.size with h' | h'
 ·simp [h'] at h0 h1;rw [h0] at h1;cases h1
 ·simp [Array.getElem?_eq_none h'] at h1):P:=h
theorem IF {P:Prop} (h:P:=by
 have bx:k = xs.length:=by omega
 have HK:=I bx;clear bx;go_wp2;go_ret
 have h1:=Heq.out;rw [HK.out,List.take_length,HL.out,List.take_length] at h1
 exact ⟨by rw [h1];rfl,aE⟩):P:=h
theorem zF {P:Prop} (h:P:=by
 have bx:k = xs.length:=by omega
 subst bx;go_wp2;go_ret
 exact ⟨by rw [List.take_length];rfl,aE⟩):P:=h
theorem IH {P:Prop} (h:P:=by
 have HS:=I (nP (k+1) IK OS.out);clear he;go_wp2_with (fail)
 go_ret
 exact ⟨by rw [RS.out,HS.out];rfl,bs⟩):P:=h
theorem RT {P:Prop} (h:P:=by
 rw [Jf.out,HI.out];have:=vP Le (B':=w2.heap.size) ly.out.size
 simpa only [List.flatMap_append,List.flatMap_cons,List.append_assoc,List.cons_append,List.nil_append,gl] using this):P:=h
theorem RU {P:Prop} (h:P:=by
 rw [Jf.out,HI.out];have:=vP Le (B':=w2.heap.size) ly.out.size
 simpa only [List.flatMap_append,List.flatMap_cons,List.append_assoc,List.cons_append,List.nil_append,gb] using this):P:=h
theorem qy {P:Prop} (h:P:=by
 rw [ce _ _ S',cell_of_row _ _ _ _ _ _ (heap_alloc_new w _)];rfl):P:=h
theorem IM {P:Prop} (h:P:=by
 exact ((((((((((((((gc.out.bE ap 0 _).bE ap 1 _).bE ap 2 _).bE ap 3 _).bE ap 4 _).bE ap 5 _).bE ap 6 _).bE ap 7 _).bE ap 8 _).bE ap 9 _).bE ap 10 _).bE ap 11 _).bE ap 12 _).bE ap 13 _)):P:=h
theorem RV {P:Prop} (h:P:=by
 rw [Jf.out,HI.out];have:=vP Le (B':=w2.heap.size) ly.out.size
 simpa only [List.flatMap_append,List.flatMap_cons,List.append_assoc,List.cons_append,List.nil_append,gA] using this):P:=h
theorem IN {P:Prop} (h:P:=by
 have h1:=Og xs (jD xs.length) hx xs.length (Nat.le_refl _);rw [List.take_length] at h1;have h2:=bM xs.length ⟨J,J⟩;have h3:xs.length * 2097172≤1048576 * 2097172:=Nat.mul_le_mul_right _ J;unfold Fe
 omega):P:=h
theorem IP {P:Prop} (h:P:=by
 have bx:k = xs.length:=by omega
 subst bx;have hf:GZ xs 0 = some s:=by rw [HS.out,List.drop_length];rfl
 have HF:=I hf;clear hf;go_wp2;go_returns
 exact ⟨by rw [HF.out];rfl,aE⟩):P:=h
theorem IR {P:Prop} (h:P:=by
 rw [Jf.out,← HMAP.out,HE.out,List.map_append,List.map_append,List.map_cons,HKK.out]
 exact (PY _ _ (fun z hz=>by obtain ⟨z0,cf,rfl⟩:=List.mem_map.1 hz;exact HN.out z0 cf) YT.out).symm):P:=h
theorem zG {P:Prop} (h:P:=by
 rcases Nat.lt_or_ge g w.heap.size with h5 | h5
 ·exact h5
 ·rw [Array.getElem?_eq_none h5] at h3;cases h3):P:=h
theorem zH {P:Prop} (h:P:=by
 unfold Lib.compareInt;rw [Bool.eq_iff_iff,decide_eq_true_eq,decide_eq_true_eq];repeat' split
 all_goals omega):P:=h
theorem zI {P:Prop} (h:P:=by
 rcases Nat.lt_or_ge b w.heap.size with ap | lA
 ·exact ap
 ·rw [Array.getElem?_eq_none lA] at h;cases h):P:=h
theorem IS {P:Prop} (h:P:=by
 rw [zr.out,HN.out];refine am.mono (B:=w.heap.size+1+1+1) ?_ J
 exact (by repeat (first | with_reducible exact OY.out | with_reducible refine am.setCell ?_ bz _))):P:=h
theorem IT {P:Prop} (h:P:=by
 have h1:(iP s (dP s a).2).2 < 0:=by unfold iP;refine MP (fun a ha=>RW ha) _ _ _ ?_;rw [IY (by decide) (EU h)];decide
 unfold iF;split
 ·exact h1
 ·show (-1:Int) < 0
  decide):P:=h
theorem I0 {P:Prop} (h:P:=by
 intro v' w' mb hg _;refine h v' w' mb ⟨hg.os,hg.tape,hg.output,Nat.le_trans S' hg.size,fun k hk cq=>?_⟩ YV;rw [hg.block k (by simp;omega) cq]
 exact Below.heap_alloc _ _ _ hk):P:=h
theorem I1 {P:Prop} (h:P:=by
 rw [List.pairwise_append,List.pairwise_cons];refine ⟨h0.1,⟨hb,h0.2.1⟩,fun a I2 b d9=>?_⟩;rcases List.mem_cons.1 d9 with rfl | d9
 ·exact ha a I2
 ·exact h0.2.2 a I2 b d9):P:=h
theorem qz {P:Prop} (h:P:=by
 simp only [Bool.and_eq_true,decide_eq_true_eq] at h
 omega):P:=h
theorem I3 {P:Prop} (h:P:=by
 have I6:j = x.ag[k].values.length:=by omega
 subst I6;go_wp2
 exact ⟨⟨k+1,J,N',by rw [Jf.out];rfl,akY,aoz,ah aE hbi⟩,by simp [intOf];omega⟩):P:=h
theorem ul {P:Prop} (h:P:=by
 refine Or.inl ⟨rfl,fun wq hq=>?_⟩;go_simp
 try rfl):P:=h
theorem qB {P:Prop} (h:P:=by
 go_wp2;go_ret
 exact ⟨by rw [HN.out];rfl,rfl⟩):P:=h
theorem zK {P:Prop} (h:P:=by
 have h8:=oR.out y (Ie.out y h9)
 exact ⟨J,J,fun hm=>R0.out y (Ie.out y h9) hm⟩):P:=h
theorem zP {P:Prop} (h:P:=by
 have h8:=mT.out y (Ie.out y h9)
 exact ⟨J,J,fun hm=>R0.out y hm (Ie.out y h9)⟩):P:=h
theorem I7 {P:Prop} (h:P:=by
 intro l hl;rcases List.mem_append.1 hl with hl | hl
 ·exact Eo.out l hl
 ·simp only [List.mem_singleton] at hl;subst hl
  exact ⟨zR,DY⟩):P:=h
theorem zZ {P:Prop} (h:P:=by
 split
 ·rename_i h2;first | exact h2 | exact h2.2
 ·rename_i h2;rw [if_neg h2] at h;cases h):P:=h
theorem z8 {P:Prop} (h:P:=by
 go_enter Tryz.func178,Tryz.ntmps178;go_wp2;go_ret
 exact ⟨by rw [hs.out];rfl,aj _⟩):P:=h
theorem I8 {P:Prop} (h:P:=by
 obtain ⟨k,hk,rfl⟩:=List.getElem_of_mem hy
 exact Xl.nZ _ (by have:=rM (f:=ai.wt) hk;have e:ai.wt x.O[k] = nI.wt x.O[k].aS+x.O[k].on.size:=rfl;omega)):P:=h
theorem I9 {P:Prop} (h:P:=by
 refine am.up (B':=B4+w.heap.size) (fun x:rZ=>(x.pack,x.af,x.an)) ?_ (Nat.le_refl _)
 exact am.cons (jL w p hp) (am.cons (jL w q hq) (am.dy (jL w f hf)))):P:=h
theorem Ab {P:Prop} (h:P:=by
 refine Or.inl ⟨rfl,fun wq hq=>?_⟩;have dc:=(aB hq).1;go_simp
 try rfl):P:=h
theorem Ja {P:Prop} (h:P:=by
 have oY:k = 0∨k = 1∨k = 2∨k = 3∨k = 4∨k = 5:=by omega
 rcases oY with rfl | rfl | rfl | rfl | rfl | rfl <;> exact ⟨_,Jb _ _ _ _ _ rfl,by decide⟩):P:=h
theorem uo {P:Prop} (h:P:=by
 exact (bA.cell (p:=⟨g,q,none⟩) bz).trans (sJ.out q u hu)):P:=h
theorem Ac {P:Prop} (h:P:=by
 have h2:=eq_of_beq h.2;cases a;cases b
 simp only at h0 h1 h2;subst h0 h1 h2
 rfl):P:=h
theorem Ae {P:Prop} (h:P:=by
 go_wp2;go_ret
 exact ⟨by rw [HG.out];first | rfl | simp_all,aE⟩):P:=h
theorem R3 {P:Prop} (h:P:=by
 refine aN ?_;intro wn hn;replace hn:=hn.out;go_wp2;go_ret
 exact ⟨by rw [HS.out];rfl,ah aE hn⟩):P:=h
theorem Ai {P:Prop} (h:P:=by
 go_enter Tryz.func158,Tryz.ntmps158;go_wp2;go_ret
 exact ⟨rfl,rfl⟩):P:=h
theorem Jc {P:Prop} (h:P:=by
 have hn:=Hn.out;rw [bx,List.take_length] at hn;have HI:=I (F5 hn);clear hn bx;go_wp2;go_ret
 exact ⟨by rw [HI.out];rfl,bs⟩):P:=h
theorem Ak {P:Prop} (h:P:=by
 subst bx;go_wp2;go_ret
 exact ⟨by rw [HF.out];rfl,aE⟩):P:=h
theorem Jd {P:Prop} (h:P:=by
 split
 ·rename_i hw;rw [if_pos hw] at h;exact .inl (Oper.wp_mono next h)
 ·rename_i hw;rw [if_neg hw] at h
  exact next _ _ h):P:=h
theorem R4 {P:Prop} (h:P:=by
 refine aN ?_;intro wn hn;replace hn:=hn.out;go_wp2
 exact ⟨⟨k+1,Je,N',ah bS hn⟩,by simp [intOf];omega⟩):P:=h
theorem p' {P:Prop} (h:P:=by
 simp only [List.map_cons,List.sum_cons];omega):P:=h
theorem Jn {P:Prop} (h:P:=by
 rintro e w2 ⟨rfl,hw⟩;rw [hw];clear hw w2;go_wp2;go_ret
 exact ⟨by rw [HF.out];rfl,aj _⟩):P:=h
theorem Jp {P:Prop} (h:P:=by
 rw [xK] at h;rcases MK h with h | h
 ·exact .inl h
 ·rw [List.mem_singleton.1 h];exact .inr (List.mem_cons_self ..)):P:=h
theorem Am {P:Prop} (h:P:=by
 go_wp2
 exact ⟨⟨k+1,J,N',Gn.out,bs⟩,by simp [intOf];omega⟩):P:=h
theorem Jq {P:Prop} (h:P:=by
 refine ⟨⟨k+1,J,N',by rw [YY _ _ _ ap];exact b8,by rw [YY _ _ _ ap];exact kj,Jr.symm,bj⟩,by simp [intOf];omega⟩):P:=h
theorem Js {P:Prop} (h:P:=by
 clear hp;have HI:=I (Fj ap Hn.out HP.out);go_wp2;go_ret
 exact ⟨by rw [HI.out];rfl,bs⟩):P:=h
theorem Jt {P:Prop} (h:P:=by
 obtain ⟨j,Ao,rfl⟩:=List.getElem_of_mem hz;rw [List.getElem_take];rw [List.length_take] at Ao
 exact hN j J J):P:=h
theorem As {P:Prop} (h:P:=by
 simp only [List.map_nil,List.sum_nil,List.length_nil] at h hl;omega):P:=h
theorem Ju {P:Prop} (h:P:=by
 exact am.oJ h ⟨dq D hr,List.nodup_nil,(fun b hb=>by cases hb),(fun b hb=>by cases hb)⟩ (fun g hg hm=>by cases hm)):P:=h
theorem Jx {P:Prop} (h:P:=by
 have h3:s.data.toList.length = 0:=by rw [← ByteArray.toList_eq,h1];rfl
 rw [Array.length_toList] at h3
 exact h3):P:=h
theorem Aw {P:Prop} (h:P:=by
 rw [h,if_neg J,hs,Int.toNat_natCast,List.getElem?_eq_getElem hk]):P:=h
theorem JE {P:Prop} (h:P:=by
 rcases Nat.lt_or_ge g w.heap.size with ap | lA
 ·exact ap
 ·rw [Array.getElem?_eq_none lA] at h3;cases h3):P:=h
theorem JN {P:Prop} (h:P:=by
 cases j with
 | zero=>rwa [bR hj] at this
 | succ i=>rw [yS hj,Bool.and_eq_true] at this;exact this.1):P:=h
theorem JP {P:Prop} (h:P:=by
 rcases h.2 with ⟨rfl,hn⟩ | ⟨g,aL,b5,rfl,_⟩
 ·subst hn;exact ⟨none,0,rfl⟩
 ·exact ⟨_,_,rfl⟩):P:=h
theorem JQ {P:Prop} (h:P:=by
 refine ⟨?_,?_,?_⟩
 ·show (0:Int)≤_;omega
 ·show (-1:Int)≤-1;omega
 ·show (-1:Int)≤_;omega):P:=h
theorem JR {P:Prop} (h:P:=by
 intro HK;have bu:Below wn.heap.size wn wn.drew:=aA (aj _);refine aX 1 _ X U' H' bu W' ?_;try simp only [Act.put,pz]
 refine aX 2 _ X U' H' bu W' ?_;try simp only [Act.put,pz]
 refine aX 3 _ X U' H' bu W' ?_;try simp only [Act.put,pz]
 refine aX 5 _ X U' H' bu W' ?_;try simp only [Act.put,pz]
 refine aX 6 _ X U' H' bu W' ?_;try simp only [Act.put,pz]
 refine aX 7 _ X U' H' bu W' ?_;try simp only [Act.put,pz]
 refine aX 8 _ X U' H' bu W' ?_;try simp only [Act.put,pz]
 refine D7 0 9 X X U' X X (fun K hK=>?_) (fun K hK=>?_)
 ·go_simp;refine hK _ _ (ak bu (.cells #[] 91)) ?_;try simp only [Act.put,pz]
  clear hK K;have Qz:=ak bu (.cells #[] 91);have KI:=D9 wn.drew 91 4 wn.heap.size rfl;refine D7 4 9 X X U' X X (fun K hK=>?_) (fun K hK=>?_)
  ·refine qQ qC _ _ X (wn.drew.alloc (.cells #[] 91)) wn.heap.size _ 0 [] KI X ⟨g,0,none⟩ jj aL ((s1.flatMap gb)) X R5 (fun q u hu=>(Qz.cell (p:=(⟨g,0,none⟩:Addr).add q) ip).trans (et.out q u hu)) (mW vy s1) J J fh ?_;intro v5 w5 bb cw fi;have bo:Below wn.heap.size wn w5:=Below.grown (Qz) cw fh (fun q hq=>(KI.lt q hq).1);refine hK _ _ bo ?_;try simp only [Act.put,pz]
   clear hK K;refine bP 9 X U' X (fun K hK=>?_);go_simp;refine hK _ _ (ak bo (.cells #[.string y.key,.bool y.equal,.string y.value,.int .i64 y.al] 91)) ?_;try simp only [Act.put,pz]
   clear hK K;have cC:=ak bo (.cells #[.string y.key,.bool y.equal,.string y.value,.int .i64 y.al] 91);refine bP 10 X U' X (fun K hK=>?_);refine qQ qC _ _ X (w5.alloc (.cells #[.string y.key,.bool y.equal,.string y.value,.int .i64 y.al] 91)) wn.heap.size v5 _ _ (mG bb (ak (aj _) _)) X ⟨w5.heap.size,0,none⟩ 1 1 [.string y.key,.bool y.equal,.string y.value,.int .i64 y.al] X X (DI w5 91 [.string y.key,.bool y.equal,.string y.value,.int .i64 y.al] w5.heap.size rfl) (vy y) J J fm ?_;exact ur
  ·go_simp;refine hK _ _ (ak Qz (.cells #[.string y.key,.bool y.equal,.string y.value,.int .i64 y.al] 91)) ?_;try simp only [Act.put,pz]
   clear hK K;have cC:=ak Qz (.cells #[.string y.key,.bool y.equal,.string y.value,.int .i64 y.al] 91);replace KI:=mG KI (ak (aj _) (.cells #[.string y.key,.bool y.equal,.string y.value,.int .i64 y.al] 91));refine bP 4 X U' X (fun K hK=>?_);refine qQ qC _ _ X ((wn.drew.alloc (.cells #[] 91)).alloc (.cells #[.string y.key,.bool y.equal,.string y.value,.int .i64 y.al] 91)) wn.heap.size _ 0 [] KI X ⟨g,0,none⟩ jj aL ((s1.flatMap gb)) X R5 (fun q u hu=>(cC.cell (p:=(⟨g,0,none⟩:Addr).add q) ip).trans (et.out q u hu)) (mW vy s1) J J fm ?_;intro v5 w5 bb cw fi;have bo:Below wn.heap.size wn w5:=Below.grown (cC) cw fm (fun q hq=>(KI.lt q hq).1);refine hK _ _ bo ?_;try simp only [Act.put,pz]
   clear hK K;refine bP 10 X U' X (fun K hK=>?_);refine qQ qC _ _ X w5 wn.heap.size v5 _ _ bb X ⟨wn.heap.size+1,0,none⟩ 1 1 [.string y.key,.bool y.equal,.string y.value,.int .i64 y.al] X X (fun q u hu=>(World.cell?_of_block sA).trans ((DI (wn.drew.alloc (.cells #[] 91)) 91 [.string y.key,.bool y.equal,.string y.value,.int .i64 y.al] (wn.heap.size+1) S') q u hu)) (vy y) J J gR ?_;exact lU
 ·go_simp;refine hK _ _ (ak bu (.cells #[.string y.key,.bool y.equal,.string y.value,.int .i64 y.al] 91)) ?_;try simp only [Act.put,pz]
  clear hK K;have cC:=ak bu (.cells #[.string y.key,.bool y.equal,.string y.value,.int .i64 y.al] 91);refine bP 0 X U' X (fun K hK=>?_);go_simp;refine hK _ _ (ak cC (.cells #[] 91)) ?_;try simp only [Act.put,pz]
  clear hK K;have Qz:=ak cC (.cells #[] 91);have KI:=vP (D9 (wn.drew.alloc (.cells #[.string y.key,.bool y.equal,.string y.value,.int .i64 y.al] 91)) 91 4 (wn.heap.size+1) S') (B':=wn.heap.size) J;refine bP 4 X U' X (fun K hK=>?_);refine qQ qC _ _ X ((wn.drew.alloc (.cells #[.string y.key,.bool y.equal,.string y.value,.int .i64 y.al] 91)).alloc (.cells #[] 91)) wn.heap.size _ 0 [] KI X ⟨g,0,none⟩ jj aL ((s1.flatMap gb)) X R5 (fun q u hu=>(Qz.cell (p:=(⟨g,0,none⟩:Addr).add q) ip).trans (et.out q u hu)) (mW vy s1) J J fh ?_;intro v5 w5 bb cw fi;have bo:Below wn.heap.size wn w5:=Below.grown (Qz) cw fh (fun q hq=>(KI.lt q hq).1);refine hK _ _ bo ?_;try simp only [Act.put,pz]
  clear hK K;refine bP 10 X U' X (fun K hK=>?_);refine qQ qC _ _ X w5 wn.heap.size v5 _ _ bb X ⟨wn.heap.size,0,none⟩ 1 1 [.string y.key,.bool y.equal,.string y.value,.int .i64 y.al] X X (fun q u hu=>(World.cell?_of_block sB).trans ((DI wn.drew 91 [.string y.key,.bool y.equal,.string y.value,.int .i64 y.al] wn.heap.size rfl) q u hu)) (vy y) J J gR ?_
  exact lU):P:=h
theorem JS {P:Prop} (h:P:=by
 intro HK;have bu:Below wn.heap.size wn wn.drew:=aA (aj _);refine aX 1 _ X U' H' bu W' ?_;try simp only [Act.put,pz]
 refine aX 2 _ X U' H' bu W' ?_;try simp only [Act.put,pz]
 refine aX 3 _ X U' H' bu W' ?_;try simp only [Act.put,pz]
 refine aX 5 _ X U' H' bu W' ?_;try simp only [Act.put,pz]
 refine aX 6 _ X U' H' bu W' ?_;try simp only [Act.put,pz]
 refine aX 7 _ X U' H' bu W' ?_;try simp only [Act.put,pz]
 refine aX 8 _ X U' H' bu W' ?_;try simp only [Act.put,pz]
 refine D7 0 9 X X U' X X (fun K hK=>?_) (fun K hK=>?_)
 ·go_simp;refine hK _ _ (ak bu (.cells #[] 84)) ?_;try simp only [Act.put,pz]
  clear hK K;have Qz:=ak bu (.cells #[] 84);have KI:=D9 wn.drew 84 3 wn.heap.size rfl;refine D7 4 9 X X U' X X (fun K hK=>?_) (fun K hK=>?_)
  ·refine qQ qD _ _ X (wn.drew.alloc (.cells #[] 84)) wn.heap.size _ 0 [] KI X ⟨g,0,none⟩ jj aL ((s1.flatMap gl)) X R6 (fun q u hu=>(Qz.cell (p:=(⟨g,0,none⟩:Addr).add q) ip).trans (et.out q u hu)) (mW vz s1) J J fh ?_;intro v5 w5 bb cw fi;have bo:Below wn.heap.size wn w5:=Below.grown (Qz) cw fh (fun q hq=>(KI.lt q hq).1);refine hK _ _ bo ?_;try simp only [Act.put,pz]
   clear hK K;refine bP 9 X U' X (fun K hK=>?_);go_simp;refine hK _ _ (ak bo (.cells #[.string y.key,.string y.value,.int .i64 y.al] 84)) ?_;try simp only [Act.put,pz]
   clear hK K;have cC:=ak bo (.cells #[.string y.key,.string y.value,.int .i64 y.al] 84);refine bP 10 X U' X (fun K hK=>?_);refine qQ qD _ _ X (w5.alloc (.cells #[.string y.key,.string y.value,.int .i64 y.al] 84)) wn.heap.size v5 _ _ (mG bb (ak (aj _) _)) X ⟨w5.heap.size,0,none⟩ 1 1 [.string y.key,.string y.value,.int .i64 y.al] X X (DI w5 84 [.string y.key,.string y.value,.int .i64 y.al] w5.heap.size rfl) (vz y) J J fm ?_;exact ur
  ·go_simp;refine hK _ _ (ak Qz (.cells #[.string y.key,.string y.value,.int .i64 y.al] 84)) ?_;try simp only [Act.put,pz]
   clear hK K;have cC:=ak Qz (.cells #[.string y.key,.string y.value,.int .i64 y.al] 84);replace KI:=mG KI (ak (aj _) (.cells #[.string y.key,.string y.value,.int .i64 y.al] 84));refine bP 4 X U' X (fun K hK=>?_);refine qQ qD _ _ X ((wn.drew.alloc (.cells #[] 84)).alloc (.cells #[.string y.key,.string y.value,.int .i64 y.al] 84)) wn.heap.size _ 0 [] KI X ⟨g,0,none⟩ jj aL ((s1.flatMap gl)) X R6 (fun q u hu=>(cC.cell (p:=(⟨g,0,none⟩:Addr).add q) ip).trans (et.out q u hu)) (mW vz s1) J J fm ?_;intro v5 w5 bb cw fi;have bo:Below wn.heap.size wn w5:=Below.grown (cC) cw fm (fun q hq=>(KI.lt q hq).1);refine hK _ _ bo ?_;try simp only [Act.put,pz]
   clear hK K;refine bP 10 X U' X (fun K hK=>?_);refine qQ qD _ _ X w5 wn.heap.size v5 _ _ bb X ⟨wn.heap.size+1,0,none⟩ 1 1 [.string y.key,.string y.value,.int .i64 y.al] X X (fun q u hu=>(World.cell?_of_block sA).trans ((DI (wn.drew.alloc (.cells #[] 84)) 84 [.string y.key,.string y.value,.int .i64 y.al] (wn.heap.size+1) S') q u hu)) (vz y) J J gR ?_;exact lU
 ·go_simp;refine hK _ _ (ak bu (.cells #[.string y.key,.string y.value,.int .i64 y.al] 84)) ?_;try simp only [Act.put,pz]
  clear hK K;have cC:=ak bu (.cells #[.string y.key,.string y.value,.int .i64 y.al] 84);refine bP 0 X U' X (fun K hK=>?_);go_simp;refine hK _ _ (ak cC (.cells #[] 84)) ?_;try simp only [Act.put,pz]
  clear hK K;have Qz:=ak cC (.cells #[] 84);have KI:=vP (D9 (wn.drew.alloc (.cells #[.string y.key,.string y.value,.int .i64 y.al] 84)) 84 3 (wn.heap.size+1) S') (B':=wn.heap.size) J;refine bP 4 X U' X (fun K hK=>?_);refine qQ qD _ _ X ((wn.drew.alloc (.cells #[.string y.key,.string y.value,.int .i64 y.al] 84)).alloc (.cells #[] 84)) wn.heap.size _ 0 [] KI X ⟨g,0,none⟩ jj aL ((s1.flatMap gl)) X R6 (fun q u hu=>(Qz.cell (p:=(⟨g,0,none⟩:Addr).add q) ip).trans (et.out q u hu)) (mW vz s1) J J fh ?_;intro v5 w5 bb cw fi;have bo:Below wn.heap.size wn w5:=Below.grown (Qz) cw fh (fun q hq=>(KI.lt q hq).1);refine hK _ _ bo ?_;try simp only [Act.put,pz]
  clear hK K;refine bP 10 X U' X (fun K hK=>?_);refine qQ qD _ _ X w5 wn.heap.size v5 _ _ bb X ⟨wn.heap.size,0,none⟩ 1 1 [.string y.key,.string y.value,.int .i64 y.al] X X (fun q u hu=>(World.cell?_of_block sB).trans ((DI wn.drew 84 [.string y.key,.string y.value,.int .i64 y.al] wn.heap.size rfl) q u hu)) (vz y) J J gR ?_
  exact lU):P:=h
theorem JT {P:Prop} (h:P:=by
 intro HK;have bu:Below wn.heap.size wn wn.drew:=aA (aj _);refine aX 1 _ X U' H' bu W' ?_;try simp only [Act.put,pz]
 refine aX 2 _ X U' H' bu W' ?_;try simp only [Act.put,pz]
 refine aX 3 _ X U' H' bu W' ?_;try simp only [Act.put,pz]
 refine aX 5 _ X U' H' bu W' ?_;try simp only [Act.put,pz]
 refine aX 6 _ X U' H' bu W' ?_;try simp only [Act.put,pz]
 refine aX 7 _ X U' H' bu W' ?_;try simp only [Act.put,pz]
 refine aX 8 _ X U' H' bu W' ?_;try simp only [Act.put,pz]
 refine D7 0 9 X X U' X X (fun K hK=>?_) (fun K hK=>?_)
 ·go_simp;refine hK _ _ (ak bu (.cells #[] 57)) ?_;try simp only [Act.put,pz]
  clear hK K;have Qz:=ak bu (.cells #[] 57);have KI:=D9 wn.drew 57 2 wn.heap.size rfl;refine D7 4 9 X X U' X X (fun K hK=>?_) (fun K hK=>?_)
  ·refine qQ qF _ _ X (wn.drew.alloc (.cells #[] 57)) wn.heap.size _ 0 [] KI X ⟨g,0,none⟩ jj aL ((s1.flatMap gA)) X R7 (fun q u hu=>(Qz.cell (p:=(⟨g,0,none⟩:Addr).add q) ip).trans (et.out q u hu)) (mW vA s1) J J fh ?_;intro v5 w5 bb cw fi;have bo:Below wn.heap.size wn w5:=Below.grown (Qz) cw fh (fun q hq=>(KI.lt q hq).1);refine hK _ _ bo ?_;try simp only [Act.put,pz]
   clear hK K;refine bP 9 X U' X (fun K hK=>?_);go_simp;refine hK _ _ (ak bo (.cells #[.string y.key,.string y.value] 57)) ?_;try simp only [Act.put,pz]
   clear hK K;have cC:=ak bo (.cells #[.string y.key,.string y.value] 57);refine bP 10 X U' X (fun K hK=>?_);refine qQ qF _ _ X (w5.alloc (.cells #[.string y.key,.string y.value] 57)) wn.heap.size v5 _ _ (mG bb (ak (aj _) _)) X ⟨w5.heap.size,0,none⟩ 1 1 [.string y.key,.string y.value] X X (DI w5 57 [.string y.key,.string y.value] w5.heap.size rfl) (vA y) J J fm ?_;exact ur
  ·go_simp;refine hK _ _ (ak Qz (.cells #[.string y.key,.string y.value] 57)) ?_;try simp only [Act.put,pz]
   clear hK K;have cC:=ak Qz (.cells #[.string y.key,.string y.value] 57);replace KI:=mG KI (ak (aj _) (.cells #[.string y.key,.string y.value] 57));refine bP 4 X U' X (fun K hK=>?_);refine qQ qF _ _ X ((wn.drew.alloc (.cells #[] 57)).alloc (.cells #[.string y.key,.string y.value] 57)) wn.heap.size _ 0 [] KI X ⟨g,0,none⟩ jj aL ((s1.flatMap gA)) X R7 (fun q u hu=>(cC.cell (p:=(⟨g,0,none⟩:Addr).add q) ip).trans (et.out q u hu)) (mW vA s1) J J fm ?_;intro v5 w5 bb cw fi;have bo:Below wn.heap.size wn w5:=Below.grown (cC) cw fm (fun q hq=>(KI.lt q hq).1);refine hK _ _ bo ?_;try simp only [Act.put,pz]
   clear hK K;refine bP 10 X U' X (fun K hK=>?_);refine qQ qF _ _ X w5 wn.heap.size v5 _ _ bb X ⟨wn.heap.size+1,0,none⟩ 1 1 [.string y.key,.string y.value] X X (fun q u hu=>(World.cell?_of_block sA).trans ((DI (wn.drew.alloc (.cells #[] 57)) 57 [.string y.key,.string y.value] (wn.heap.size+1) S') q u hu)) (vA y) J J gR ?_;exact lU
 ·go_simp;refine hK _ _ (ak bu (.cells #[.string y.key,.string y.value] 57)) ?_;try simp only [Act.put,pz]
  clear hK K;have cC:=ak bu (.cells #[.string y.key,.string y.value] 57);refine bP 0 X U' X (fun K hK=>?_);go_simp;refine hK _ _ (ak cC (.cells #[] 57)) ?_;try simp only [Act.put,pz]
  clear hK K;have Qz:=ak cC (.cells #[] 57);have KI:=vP (D9 (wn.drew.alloc (.cells #[.string y.key,.string y.value] 57)) 57 2 (wn.heap.size+1) S') (B':=wn.heap.size) J;refine bP 4 X U' X (fun K hK=>?_);refine qQ qF _ _ X ((wn.drew.alloc (.cells #[.string y.key,.string y.value] 57)).alloc (.cells #[] 57)) wn.heap.size _ 0 [] KI X ⟨g,0,none⟩ jj aL ((s1.flatMap gA)) X R7 (fun q u hu=>(Qz.cell (p:=(⟨g,0,none⟩:Addr).add q) ip).trans (et.out q u hu)) (mW vA s1) J J fh ?_;intro v5 w5 bb cw fi;have bo:Below wn.heap.size wn w5:=Below.grown (Qz) cw fh (fun q hq=>(KI.lt q hq).1);refine hK _ _ bo ?_;try simp only [Act.put,pz]
  clear hK K;refine bP 10 X U' X (fun K hK=>?_);refine qQ qF _ _ X w5 wn.heap.size v5 _ _ bb X ⟨wn.heap.size,0,none⟩ 1 1 [.string y.key,.string y.value] X X (fun q u hu=>(World.cell?_of_block sB).trans ((DI wn.drew 57 [.string y.key,.string y.value] wn.heap.size rfl) q u hu)) (vA y) J J gR ?_
  exact lU):P:=h
theorem JU {P:Prop} (h:P:=by
 intro HK;have bu:Below wn.heap.size wn wn.drew:=aA (aj _);refine aX 1 _ X U' H' bu W' ?_;try simp only [Act.put,pz]
 refine aX 2 _ X U' H' bu W' ?_;try simp only [Act.put,pz]
 refine aX 3 _ X U' H' bu W' ?_;try simp only [Act.put,pz]
 refine aX 5 _ X U' H' bu W' ?_;try simp only [Act.put,pz]
 refine aX 6 _ X U' H' bu W' ?_;try simp only [Act.put,pz]
 refine aX 7 _ X U' H' bu W' ?_;try simp only [Act.put,pz]
 refine aX 8 _ X U' H' bu W' ?_;try simp only [Act.put,pz]
 refine D7 0 9 X X U' X X (fun K hK=>?_) (fun K hK=>?_)
 ·go_simp;refine hK _ _ (ak bu (.cells #[] 9)) ?_;try simp only [Act.put,pz]
  clear hK K;have Qz:=ak bu (.cells #[] 9);have KI:=D9 wn.drew 9 1 wn.heap.size rfl;refine D7 4 9 X X U' X X (fun K hK=>?_) (fun K hK=>?_)
  ·refine qQ qw _ _ X (wn.drew.alloc (.cells #[] 9)) wn.heap.size _ 0 [] KI X ⟨g,0,none⟩ jj aL (((s1).map Value.string)) X vu (fun q u hu=>(Qz.cell (p:=(⟨g,0,none⟩:Addr).add q) ip).trans (et.out q u hu)) (fun u hu=>by obtain ⟨z0,_,rfl⟩:=List.mem_map.1 hu;rfl) J J fh ?_;intro v5 w5 bb cw fi;have bo:Below wn.heap.size wn w5:=Below.grown (Qz) cw fh (fun q hq=>(KI.lt q hq).1);refine hK _ _ bo ?_;try simp only [Act.put,pz]
   clear hK K;refine bP 9 X U' X (fun K hK=>?_);go_simp;refine hK _ _ (ak bo (.cells #[.string y] 9)) ?_;try simp only [Act.put,pz]
   clear hK K;have cC:=ak bo (.cells #[.string y] 9);refine bP 10 X U' X (fun K hK=>?_);refine qQ qw _ _ X (w5.alloc (.cells #[.string y] 9)) wn.heap.size v5 _ _ (mG bb (ak (aj _) _)) X ⟨w5.heap.size,0,none⟩ 1 1 [.string y] X X (DI w5 9 [.string y] w5.heap.size rfl) (fun u hu=>by rw [List.mem_singleton.1 hu];rfl) J J fm ?_;exact ur
  ·go_simp;refine hK _ _ (ak Qz (.cells #[.string y] 9)) ?_;try simp only [Act.put,pz]
   clear hK K;have cC:=ak Qz (.cells #[.string y] 9);replace KI:=mG KI (ak (aj _) (.cells #[.string y] 9));refine bP 4 X U' X (fun K hK=>?_);refine qQ qw _ _ X ((wn.drew.alloc (.cells #[] 9)).alloc (.cells #[.string y] 9)) wn.heap.size _ 0 [] KI X ⟨g,0,none⟩ jj aL (((s1).map Value.string)) X vu (fun q u hu=>(cC.cell (p:=(⟨g,0,none⟩:Addr).add q) ip).trans (et.out q u hu)) (fun u hu=>by obtain ⟨z0,_,rfl⟩:=List.mem_map.1 hu;rfl) J J fm ?_;intro v5 w5 bb cw fi;have bo:Below wn.heap.size wn w5:=Below.grown (cC) cw fm (fun q hq=>(KI.lt q hq).1);refine hK _ _ bo ?_;try simp only [Act.put,pz]
   clear hK K;refine bP 10 X U' X (fun K hK=>?_);refine qQ qw _ _ X w5 wn.heap.size v5 _ _ bb X ⟨wn.heap.size+1,0,none⟩ 1 1 [.string y] X X (fun q u hu=>(World.cell?_of_block sA).trans ((DI (wn.drew.alloc (.cells #[] 9)) 9 [.string y] (wn.heap.size+1) S') q u hu)) (fun u hu=>by rw [List.mem_singleton.1 hu];rfl) J J gR ?_;exact lU
 ·go_simp;refine hK _ _ (ak bu (.cells #[.string y] 9)) ?_;try simp only [Act.put,pz]
  clear hK K;have cC:=ak bu (.cells #[.string y] 9);refine bP 0 X U' X (fun K hK=>?_);go_simp;refine hK _ _ (ak cC (.cells #[] 9)) ?_;try simp only [Act.put,pz]
  clear hK K;have Qz:=ak cC (.cells #[] 9);have KI:=vP (D9 (wn.drew.alloc (.cells #[.string y] 9)) 9 1 (wn.heap.size+1) S') (B':=wn.heap.size) J;refine bP 4 X U' X (fun K hK=>?_);refine qQ qw _ _ X ((wn.drew.alloc (.cells #[.string y] 9)).alloc (.cells #[] 9)) wn.heap.size _ 0 [] KI X ⟨g,0,none⟩ jj aL (((s1).map Value.string)) X vu (fun q u hu=>(Qz.cell (p:=(⟨g,0,none⟩:Addr).add q) ip).trans (et.out q u hu)) (fun u hu=>by obtain ⟨z0,_,rfl⟩:=List.mem_map.1 hu;rfl) J J fh ?_;intro v5 w5 bb cw fi;have bo:Below wn.heap.size wn w5:=Below.grown (Qz) cw fh (fun q hq=>(KI.lt q hq).1);refine hK _ _ bo ?_;try simp only [Act.put,pz]
  clear hK K;refine bP 10 X U' X (fun K hK=>?_);refine qQ qw _ _ X w5 wn.heap.size v5 _ _ bb X ⟨wn.heap.size,0,none⟩ 1 1 [.string y] X X (fun q u hu=>(World.cell?_of_block sB).trans ((DI wn.drew 9 [.string y] wn.heap.size rfl) q u hu)) (fun u hu=>by rw [List.mem_singleton.1 hu];rfl) J J gR ?_
  exact lU):P:=h
theorem AD {P:Prop} (h:P:=by
 go_wp2_with fail
 skip
 refine aF _ U' U' (aj _) ?_
 repeat ((first | refine aG X ?_ | refine aH _ X Rp ?_);simp only [Act.put,pz])
 exact Fy):P:=h
theorem J0 {P:Prop} (h:P:=by
 try simp only [Bool.and_false,Bool.and_true,Bool.false_and,Bool.and_self] at hp
 have HN:=I (gq hall.out hp);have Gn:=I (gq hfresh.out AE);clear hp;go_wp2_with fail
 clear q0 q1 q2 q3 q4 q5 q6 q7 q8;refine aF _ U' U' (aj _) ?_
 repeat ((first | refine aG X ?_ | refine aH _ X Rk ?_);simp only [Act.put,pz])
 exact Rz):P:=h
theorem xX {P:Prop} (h:P:=by
 refine hK _ _ bF ?_;try simp only [Act.put,pz]
 clear hK K;refine bP 11 X U' X (fun K hK=>?_);go_simp;refine hK _ _ bF ?_;try simp only [Act.put,pz]
 clear hK K;refine nR U' ?_
 exact HK _ _ ⟨g9,p9,_,_,_,_,_,_,_,_,_,_,DZ,bF,nK⟩):P:=h
theorem AF {P:Prop} (h:P:=by
 go_wp2_with fail
 skip
 refine aF _ U' U' (aj _) ?_
 repeat ((first | refine aG X ?_ | refine aH _ X Rr ?_);simp only [Act.put,pz])
 exact FG):P:=h
theorem J7 {P:Prop} (h:P:=by
 have HN:=I (gq hall.out hp);have Gn:=I (gq hfresh.out AE);clear hp;go_wp2_with fail
 clear q0 q1 q2 q3 q4 q5 q6 q7 q8;refine aF _ U' U' (aj _) ?_
 repeat ((first | refine aG X ?_ | refine aH _ X Rm ?_);simp only [Act.put,pz])
 exact RA):P:=h
theorem yN {P:Prop} (h:P:=by
 rw [HF.out];first | refine ⟨[.slice dG x.Z.length bV,.slice dS x.O.length dJ,.int .i64 x.next,.int .i64 x.weights.pack,.int .i64 x.weights.af,.int .i64 x.weights.an],G1,rfl,?_,?_⟩ | refine ⟨[.slice dG x.Z.length bV,.slice dS x.O.length dJ,.int .i64 x.next,.int .i64 x.weights.pack,.int .i64 x.weights.af,.int .i64 x.weights.an],rfl,⟨G1,?_⟩,?_⟩
 ·try dsimp only
  refine am.mono (B:=w.heap.size+1+1+1) ?_ J;exact DQ
 ·exact qi):P:=h
theorem Gx {P:Prop} (h:P:=by
 have RZ:=I bN;clear jX bN h h';go_wp2_with fail
 try dsimp only
 iterate 60 (first | go_step | skip)
 refine bodyPost_ret (v:=.tuple #[.agg #[.slice dG x.Z.length bV,.slice dS x.O.length dJ,.int .i64 x.next,.int .i64 x.weights.pack,.int .i64 x.weights.af,.int .i64 x.weights.an],.int .i64 1]) (by simp [results,Tryz.results112,go_sem, *]) rfl ?_;rw [HF.out]
 first
  | refine ⟨[.slice dG x.Z.length bV,.slice dS x.O.length dJ,.int .i64 x.next,.int .i64 x.weights.pack,.int .i64 x.weights.af,.int .i64 x.weights.an],G1,rfl,?_,?_⟩
  | refine ⟨[.slice dG x.Z.length bV,.slice dS x.O.length dJ,.int .i64 x.next,.int .i64 x.weights.pack,.int .i64 x.weights.af,.int .i64 x.weights.an],rfl,⟨G1,?_⟩,?_⟩
 ·try dsimp only
  refine am.mono (B:=w.heap.size+1+1+1) ?_ J;exact Yq
 ·exact qi):P:=h
theorem x5 {P:Prop} (h:P:=by
 refine hK _ _ bF ?_;try simp only [Act.put,pz]
 clear hK K;refine bP 12 X U' X (fun K hK=>?_);go_simp;refine hK _ _ bF ?_;try simp only [Act.put,pz]
 clear hK K;refine nR U' ?_
 exact HK _ _ ⟨g9,p9,_,_,_,_,_,_,_,_,_,_,_,DZ,bF,nK⟩):P:=h
theorem x8 {P:Prop} (h:P:=by
 refine hK _ _ bF ?_;try simp only [Act.put,pz]
 clear hK K;refine bP 9 X U' X (fun K hK=>?_);go_simp;refine hK _ _ bF ?_;try simp only [Act.put,pz]
 clear hK K;refine nR U' ?_
 exact HK _ _ ⟨g9,p9,_,_,_,_,_,_,_,_,DZ,bF,nK⟩):P:=h
theorem Ka {P:Prop} (h:P:=by
 try simp only [Bool.and_false,Bool.and_true,Bool.false_and,Bool.and_self] at hp
 have HF:=I (dW ap hp);clear hp;go_wp2_with fail
 refine aF _ U' U' (aj _) ?_
 repeat ((first | refine aG X ?_ | refine aH _ X FM ?_);simp only [Act.put,pz])
 exact Fy):P:=h
theorem Fs {P:Prop} (h:P:=by
 intro wq hq;have dc:=(aB hq).1;have lJ:=(aB hq).2;have Kb:=Kc.out wq hq;go_simp
 first
  | exact ⟨hq,rfl⟩
  | exact ⟨aQ hq _,rfl⟩
  | (first | (refine (vw x.O[j+1].aS _ _ _ (aJ ku pB) dr.ns dr.ll dr.ls dr.nl dr.O0 dr.tl dr.ts).mono ?_;rw [H1.out];rintro e w2 ⟨rfl,av⟩;exact ⟨rfl,aI hq av⟩) | (refine (jc x.O[j+1].seq 1 (x.next - 1) _).mono ?_;rw [LQ.out];rintro e w2 ⟨rfl,rfl⟩;exact ⟨rfl,hq⟩) | (refine (gK x _ _ x.O[j+1].on _ (aJ h pB) NV.out).mono ?_;rw [Hg.out];rintro e w2 ⟨rfl,av⟩;exact ⟨rfl,aI hq av⟩))
  | (simp only [↓IntWalk.iteOmega];exact ⟨hq,rfl⟩)):P:=h
theorem FE {P:Prop} (h:P:=by
 intro wq hq;have dc:=(aB hq).1;have lJ:=(aB hq).2;have Kb:=Kc.out wq hq;go_simp
 first
  | exact ⟨hq,rfl⟩
  | exact ⟨aQ hq _,rfl⟩
  | (first | (refine (vw x.O[0].aS _ _ _ (aJ ku pB) dr.ns dr.ll dr.ls dr.nl dr.O0 dr.tl dr.ts).mono ?_;rw [H1.out];rintro e w2 ⟨rfl,av⟩;exact ⟨rfl,aI hq av⟩) | (refine (jc x.O[0].seq 1 (x.next - 1) _).mono ?_;rw [LQ.out];rintro e w2 ⟨rfl,rfl⟩;exact ⟨rfl,hq⟩) | (refine (gK x _ _ x.O[0].on _ (aJ h pB) NV.out).mono ?_;rw [Hg.out];rintro e w2 ⟨rfl,av⟩;exact ⟨rfl,aI hq av⟩))
  | (simp only [↓IntWalk.iteOmega];exact ⟨hq,rfl⟩)):P:=h
theorem E6 {P:Prop} (h:P:=by
 intro wq hq;have dc:=(aB hq).1;have lJ:=(aB hq).2;go_simp
 first
  | exact ⟨hq,rfl⟩
  | exact ⟨aQ hq _,rfl⟩
  | (first | (refine (wM x.O[j+1].aS _ _ _ (aJ ku pB) dr.ns dr.ll dr.ls dr.nl dr.O0 dr.tl dr.ts).mono ?_;rw [H1.out];rintro e w2 ⟨rfl,av⟩;exact ⟨rfl,aI hq av⟩) | (refine (kH x.O[j+1].seq 1 (x.next - 1) _).mono ?_;rw [LQ.out];rintro e w2 ⟨rfl,rfl⟩;exact ⟨rfl,hq⟩) | (refine (gQ x _ _ x.O[j+1].on _ (aJ h pB) NV.out).mono ?_;rw [Hg.out];rintro e w2 ⟨rfl,av⟩;exact ⟨rfl,aI hq av⟩))
  | (simp only [↓IntWalk.iteOmega];exact ⟨hq,rfl⟩)):P:=h
theorem FK {P:Prop} (h:P:=by
 intro wq hq;have dc:=(aB hq).1;have lJ:=(aB hq).2;go_simp
 first
  | exact ⟨hq,rfl⟩
  | exact ⟨aQ hq _,rfl⟩
  | (first | (refine (wM x.O[0].aS _ _ _ (aJ ku pB) dr.ns dr.ll dr.ls dr.nl dr.O0 dr.tl dr.ts).mono ?_;rw [H1.out];rintro e w2 ⟨rfl,av⟩;exact ⟨rfl,aI hq av⟩) | (refine (kH x.O[0].seq 1 (x.next - 1) _).mono ?_;rw [LQ.out];rintro e w2 ⟨rfl,rfl⟩;exact ⟨rfl,hq⟩) | (refine (gQ x _ _ x.O[0].on _ (aJ h pB) NV.out).mono ?_;rw [Hg.out];rintro e w2 ⟨rfl,av⟩;exact ⟨rfl,aI hq av⟩))
  | (simp only [↓IntWalk.iteOmega];exact ⟨hq,rfl⟩)):P:=h
theorem Fc {P:Prop} (h:P:=by
 intro wq hq;have dc:=(aB hq).1;have lJ:=(aB hq).2;go_simp
 first
  | exact ⟨hq,rfl⟩
  | exact ⟨aQ hq _,rfl⟩
  | (refine (sQ x.Z[j+1] _ _ _ (aJ eN pB) dr.ns dr.ll dr.ls dr.tl dr.ts).mono ?_;rw [H1.out];rintro e w6 ⟨rfl,dv⟩;exact ⟨rfl,aI hq dv⟩)
  | (simp only [↓IntWalk.iteOmega];exact ⟨hq,rfl⟩)):P:=h
theorem Fw {P:Prop} (h:P:=by
 intro wq hq;have dc:=(aB hq).1;have lJ:=(aB hq).2;go_simp
 first
  | exact ⟨hq,rfl⟩
  | exact ⟨aQ hq _,rfl⟩
  | (refine (sQ x.Z[0] _ _ _ (aJ eN pB) dr.ns dr.ll dr.ls dr.tl dr.ts).mono ?_;rw [H1.out];rintro e w6 ⟨rfl,dv⟩;exact ⟨rfl,aI hq dv⟩)
  | (simp only [↓IntWalk.iteOmega];exact ⟨hq,rfl⟩)):P:=h
theorem x7 {P:Prop} (h:P:=by
 refine aN ?_;intro wn hn;replace hn:=hn.out;obtain ⟨jz,kz⟩:=ay hn;have jA:w.heap.size < wn.heap.size:=sq hn.size;have pr:b' < wn.heap.size:=sq hn.size;try (have qa:wr.heap.size < wn.heap.size:=sq hn.size)
 exact qd):P:=h
theorem ya {P:Prop} (h:P:=by
 refine aN ?_;intro wn hn;replace hn:=hn.out;obtain ⟨jz,kz⟩:=ay hn;have jA:w.heap.size < wn.heap.size:=sq hn.size;have pr:b < wn.heap.size:=sq hn.size;try (have qa:wr.heap.size < wn.heap.size:=sq hn.size)
 exact qd):P:=h
theorem Fo {P:Prop} (h:P:=by
 refine hK _ _ bF ?_;try simp only [Act.put,pz]
 clear hK K;refine bP 8 X U' X (fun K hK=>?_);go_simp;refine hK _ _ bF ?_;try simp only [Act.put,pz]
 clear hK K;refine nR U' ?_
 exact HK _ _ ⟨g9,p9,_,_,_,_,_,_,_,DZ,bF,nK⟩):P:=h
theorem x6 {P:Prop} (h:P:=by
 intro wq hq;have dc:=(aB hq).1;have lJ:=(aB hq).2;go_simp
 first
  | exact ⟨hq,rfl⟩
  | exact ⟨aQ hq _,rfl⟩
  | (fail)
  | (simp only [↓IntWalk.iteOmega];exact ⟨hq,rfl⟩)):P:=h
theorem Kd {P:Prop} (h:P:=by
 go_wp2_with fail
 refine aF wr U' U' (aj _) ?_
 repeat ((first | refine aG X ?_ | refine aH _ X yZ ?_);simp only [Act.put,pz])
 exact tP):P:=h
theorem AG {P:Prop} (h:P:=by
 refine ⟨⟨k+1,g8,p8,J,N',rfl,?_,?_⟩,by simp [intOf];omega⟩
 ·rw [Jf.out,HI.out];have:=vP Le (B':=w1.heap.size) ly.out.size;exact zp
 ·exact qq):P:=h
theorem Ke {P:Prop} (h:P:=by
 go_wp2_with fail
 refine aF wr U' U' (aj _) ?_
 repeat ((first | refine aG X ?_ | refine aH _ X dC ?_);simp only [Act.put,pz])
 exact tP):P:=h
theorem FA {P:Prop} (h:P:=by
 intro wq hq;have dc:=(aB hq).1;have lJ:=(aB hq).2;go_simp
 first
  | exact ⟨hq,rfl⟩
  | exact ⟨aQ hq _,rfl⟩
  | (refine (rO x.Z[j+1] _ _ _ (aJ eN pB) dr.ns dr.ll dr.ls dr.tl dr.ts).mono ?_;rw [H1.out];rintro e w6 ⟨rfl,dv⟩;exact ⟨rfl,aI hq dv⟩)
  | (simp only [↓IntWalk.iteOmega];exact ⟨hq,rfl⟩)):P:=h
theorem FB {P:Prop} (h:P:=by
 intro wq hq;have dc:=(aB hq).1;have lJ:=(aB hq).2;go_simp
 first
  | exact ⟨hq,rfl⟩
  | exact ⟨aQ hq _,rfl⟩
  | (refine (rO x.Z[0] _ _ _ (aJ eN pB) dr.ns dr.ll dr.ls dr.tl dr.ts).mono ?_;rw [H1.out];rintro e w6 ⟨rfl,dv⟩;exact ⟨rfl,aI hq dv⟩)
  | (simp only [↓IntWalk.iteOmega];exact ⟨hq,rfl⟩)):P:=h
theorem Kf {P:Prop} (h:P:=by
 clear hs;go_wp2_with fail
 refine aF wr U' U' (aj _) ?_
 repeat ((first | refine aG X ?_ | refine aH _ X dC ?_);simp only [Act.put,pz])
 exact R4):P:=h
theorem Kg {P:Prop} (h:P:=by
 go_wp2_with fail
 refine aF wr U' U' ut ?_
 repeat ((first | refine aG X ?_ | refine aH _ X GQ ?_);simp only [Act.put,pz])
 exact R3):P:=h
theorem GH {P:Prop} (h:P:=by
 clear dv gS kB nQ;dsimp only at *;cases b
 ·go_wp2;exact ⟨⟨xs,A',c',G,k+1,rfl,N',J,qm.out,Du,jb.out,sH.out,Yw⟩,by simp only [intOf];omega⟩
 ·go_wp2
  exact ⟨⟨u,A6,c6,G6,k+1,rfl,N',J,iD.out,I (jN.out rfl),jb.out,sH.out,I ((Jg.out rfl).mono J)⟩,by simp only [intOf];omega⟩):P:=h
theorem uu {P:Prop} (h:P:=by
 go_enter Tryz.func127,Tryz.ntmps127;go_wp2_with fail
 refine (rX x.key _ kk).mono ?_
 exact FL):P:=h
theorem uv {P:Prop} (h:P:=by
 go_enter Tryz.func138,Tryz.ntmps138;go_wp2_with fail
 refine (qK x.key _ kk).mono ?_
 exact FL):P:=h
theorem Gi {P:Prop} (h:P:=by
 rw [HF.out];refine ⟨[.slice dG x.Z.length bV,.slice dS x.O.length dJ,.int .i64 x.next,.int .i64 x.weights.pack,.int .i64 x.weights.af,.int .i64 x.weights.an],G1,rfl,?_,?_⟩
 ·try dsimp only
  refine am.mono (B:=w.heap.size+1+1+1) ?_ J;exact DQ
 ·exact qi):P:=h
theorem Kh {P:Prop} (h:P:=by
 intro v7 w7 nK Ua lk;rw [show 0+0 = 0 by omega,List.nil_append] at nK;obtain ⟨g9,p9,hv7,my,kw,lm⟩:=wW nK J;subst hv7;have bF:Below wn.heap.size wn w7:=Below.grown (bo) Ua gR (fun q hq=>(bb.lt q hq).1)
 exact Ge):P:=h
theorem Ki {P:Prop} (h:P:=by
 intro v7 w7 nK Ua lk;rw [show 0+0 = 0 by omega,List.nil_append] at nK;obtain ⟨g9,p9,hv7,my,kw,lm⟩:=wW nK J;subst hv7;have bF:Below wn.heap.size wn w7:=Below.grown (bo) Ua gR (fun q hq=>(bb.lt q hq).1)
 exact Gc):P:=h
theorem Kj {P:Prop} (h:P:=by
 cases he2:GX b p.mem with
 | none =>rw [show qG b p.mem = 9223372036854775807 by unfold qG;rw [he2];rfl] at hS2 o0;exact Fd
 | some s2 =>
   rw [show qG b p.mem = s2 by unfold qG;rw [he2];rfl] at hS2 o0
   exact Fd):P:=h
theorem FF {P:Prop} (h:P:=by
 exact ⟨[.slice kM R.Z.length kN,.slice ny R.O.length nC,.int .i64 R.next,.int .i64 R.weights.pack,.int .i64 R.weights.af,.int .i64 R.weights.an],G,rfl,(HO.out.only OB (fun b hb=>by have:=HO.out.base b hb;omega)).mono (B':=w.heap.size) J,GC av OB J⟩):P:=h
theorem zb {P:Prop} (h:P:=by
 have hj:=(List.getElem?_eq_some_iff.1 hu).1;rw [← ht,List.getElem?_take] at hu;split at hu
 ·simpa using hu
 ·cases hu):P:=h
theorem Kk {P:Prop} (h:P:=by
 refine ⟨⟨k+1,N+1,g8,p8,J,J,N',rfl,I ?_,?_,?_⟩,by simp [intOf];omega⟩
 ·exact ub
 ·rw [Jf.out,HI.out];have:=vP Le (B':=w.heap.size) ly.out.size;exact zp
 ·exact qq):P:=h
theorem Kl {P:Prop} (h:P:=by
 try simp only [Bool.and_false,Bool.and_true,Bool.false_and,Bool.and_self] at hp
 have HF:=I (jP ap hp);clear hp
 exact tC):P:=h
theorem tO {P:Prop} (h:P:=by
 try dsimp only
 refine am.mono (B:=w.heap.size+1+1+1) ?_ J
 exact aG0):P:=h
theorem AH {P:Prop} (h:P:=by
 have mD:=I hr;clear hr;go_wp2_with fail
 refine jN.out.mono ?_
 exact Hc):P:=h
theorem zx {P:Prop} (h:P:=by
 rw [World.cell?_of_block (heap_alloc_old _ _ S'),cell_of_row _ _ _ _ _ _ (heap_alloc_new w _)];rfl):P:=h
theorem qS {P:Prop} (h:P:=by
 rw [HR.out];rintro e w2 ⟨rfl,av⟩
 exact ej):P:=h
theorem Km {P:Prop} (h:P:=by
 refine ⟨⟨k+1,N+1,g8,p8,J,J,N',rfl,I ?_,?_,?_⟩,by simp [intOf];omega⟩
 ·exact ub
 ·exact RT
 ·exact qq):P:=h
theorem Kn {P:Prop} (h:P:=by
 refine ⟨⟨k+1,N+1,g8,p8,J,J,N',rfl,I ?_,?_,?_⟩,by simp [intOf];omega⟩
 ·exact ub
 ·exact RU
 ·exact qq):P:=h
theorem Kp {P:Prop} (h:P:=by
 refine ⟨⟨k+1,N+1,g8,p8,J,J,N',rfl,I ?_,?_,?_⟩,by simp [intOf];omega⟩
 ·exact ub
 ·exact RV
 ·exact qq):P:=h
theorem Kr {P:Prop} (h:P:=by
 obtain ⟨R,cd⟩:=RR;dsimp only at HS ⊢;go_enter Tryz.func66,Tryz.ntmps66;go_wp2_with fail
 refine (HS.out _ _ _ (aZ h cg)).mono ?_
 exact yb):P:=h
theorem Ks {P:Prop} (h:P:=by
 refine aN ?_;intro wn hn;replace hn:=hn.out;simp only [HQ.out]
 exact Ir):P:=h
theorem Kt {P:Prop} (h:P:=by
 have HF:=I (show oH nm x p = 4 by rw [sF.out,if_neg (by simp [hS]),if_neg hu,if_neg (by simp [eW]),if_pos cK])
 exact ye):P:=h
theorem GO {P:Prop} (h:P:=by
 rcases Nat.lt_or_ge j k with h9 | h9
 ·exact HW40.out j hj h9
 ·have:j = k:=by omega
  subst this;exact hv40):P:=h
theorem Ku {P:Prop} (h:P:=by
 rw [D0.out];have:=vP Le (B':=w.heap.size+1) (by have:=e9.out.size;have:=jh.out.size;omega)
 exact zp):P:=h
theorem Kv {P:Prop} (h:P:=by
 by_cases hc:aL = jj
 ·exact ui
 ·exact ⟨⟨g,jj,none⟩,by simp [hc],rfl,fun q u hu=>by simp at hu⟩):P:=h
theorem Hu {P:Prop} (h:P:=by
 rename_i cq
 exact ⟨⟨k+1,J,N',by show _ = _;rw [iC ap fq,Heq.out];simpa using cq,ah aE hn⟩,by simp [intOf];omega⟩):P:=h
theorem ux {P:Prop} (h:P:=by
 go_enter Tryz.func140,Tryz.ntmps140
 exact oW):P:=h
theorem zo {P:Prop} (h:P:=by
 go_wp2;go_returns
 exact ⟨by rw [HF.out,HG.out];rfl,rfl⟩):P:=h
theorem yf {P:Prop} (h:P:=by
 go_wp2;go_ret
 exact ⟨by rw [HF.out];first | rfl | simp,bs⟩):P:=h
theorem GV {P:Prop} (h:P:=by
 rcases Nat.lt_or_ge g w.heap.size with ap | lA
 ·exact ap
 ·rw [Array.getElem?_eq_none lA] at hh;cases hh):P:=h
theorem AI {P:Prop} (h:P:=by
 clear hs;go_enter Tryz.func151,Tryz.ntmps151
 exact yd):P:=h
theorem AJ {P:Prop} (h:P:=by
 clear hs;go_enter Tryz.func152,Tryz.ntmps152
 exact yd):P:=h
theorem AK {P:Prop} (h:P:=by
 clear hs;go_enter Tryz.func177,Tryz.ntmps177
 exact yd):P:=h
theorem GW {P:Prop} (h:P:=by
 intro b d9;rcases List.mem_cons.1 d9 with rfl | d9
 ·exact ⟨b5,e,hh⟩
 ·exact h.plain b d9):P:=h
theorem E' {P:Prop} (h:P:=by
 unfold cF;rw [List.any_eq_false];intro u hu;have:=HQ.out u hu
 simp [this]):P:=h
theorem ur {P:Prop} (h:P:=by
 intro v7 w7 nK Ua lk;rw [show 0+jj = jj by omega,List.nil_append] at nK;obtain ⟨g9,p9,hv7,my,kw,lm⟩:=wW nK J;subst hv7;have bF:Below wn.heap.size wn w7:=Below.grown (cC) Ua fm (fun q hq=>(bb.lt q hq).1)
 exact Rf):P:=h
theorem x4 {P:Prop} (h:P:=by
 intro v7 w7 nK Ua lk;rw [show 0+jj = jj by omega,List.nil_append] at nK;obtain ⟨g9,p9,hv7,my,kw,lm⟩:=wW nK J;subst hv7;have bF:Below wn.heap.size wn w7:=Below.grown (bo) Ua gR (fun q hq=>(bb.lt q hq).1)
 exact xX):P:=h
theorem Fr {P:Prop} (h:P:=by
 intro v7 w7 nK Ua lk;rw [show 0+jj = jj by omega,List.nil_append] at nK;obtain ⟨g9,p9,hv7,my,kw,lm⟩:=wW nK J;subst hv7;have bF:Below wn.heap.size wn w7:=Below.grown (bo) Ua gR (fun q hq=>(bb.lt q hq).1)
 exact Fo):P:=h
theorem E0 {P:Prop} (h:P:=by
 intro v7 w7 nK Ua lk;rw [show 0+k = k by omega,List.nil_append] at nK;obtain ⟨g9,p9,hv7,my,kw,lm⟩:=wW nK J;subst hv7;have bF:Below wn.heap.size wn w7:=Below.grown (bo) Ua gR (fun q hq=>(bb.lt q hq).1)
 exact x5):P:=h
theorem Fg {P:Prop} (h:P:=by
 intro v7 w7 nK Ua lk;rw [show 0+k = k by omega,List.nil_append] at nK;obtain ⟨g9,p9,hv7,my,kw,lm⟩:=wW nK J;subst hv7;have bF:Below wn.heap.size wn w7:=Below.grown (bo) Ua gR (fun q hq=>(bb.lt q hq).1)
 exact x8):P:=h
theorem Kx {P:Prop} (h:P:=by
 try simp only [Bool.and_false,Bool.and_true,Bool.false_and,Bool.and_self] at hp
 have HF:=I (jP ap hp);clear hp
 exact AD):P:=h
theorem qd {P:Prop} (h:P:=by
 go_wp2;go_ret
 exact ⟨by rw [HF.out];rfl,bs⟩):P:=h
theorem uy (S:Nat) {w:World} {b o k:Nat} {a0 a1:Value} {r:List Value} (h:∀(j:Nat) (u:Value),(a0::a1::r)[j]? = some u→w.cell? ⟨b,o+(k * S+j),none⟩ = some u):w.cell? ⟨b,o+k * S,none⟩ = some a0∧w.cell? ⟨b,o+k * S+1,none⟩ = some a1:=⟨h 0 _ rfl,by rw [Nat.add_assoc];exact h 1 _ rfl⟩
theorem iX (S:Nat) {w:World} {b o k:Nat} {a0 a1 a2:Value} {r:List Value} (h:∀(j:Nat) (u:Value),(a0::a1::a2::r)[j]? = some u→w.cell? ⟨b,o+(k * S+j),none⟩ = some u):w.cell? ⟨b,o+k * S,none⟩ = some a0∧w.cell? ⟨b,o+k * S+1,none⟩ = some a1∧w.cell? ⟨b,o+k * S+2,none⟩ = some a2:=⟨h 0 _ rfl,by rw [Nat.add_assoc];exact h 1 _ rfl,by rw [Nat.add_assoc];exact h 2 _ rfl⟩
theorem qT (S:Nat) {w:World} {b o k:Nat} {a0 a1 a2 a3:Value} {r:List Value} (h:∀(j:Nat) (u:Value),(a0::a1::a2::a3::r)[j]? = some u→w.cell? ⟨b,o+(k * S+j),none⟩ = some u):w.cell? ⟨b,o+k * S,none⟩ = some a0∧w.cell? ⟨b,o+k * S+1,none⟩ = some a1∧w.cell? ⟨b,o+k * S+2,none⟩ = some a2∧w.cell? ⟨b,o+k * S+3,none⟩ = some a3:=⟨h 0 _ rfl,by rw [Nat.add_assoc];exact h 1 _ rfl,by rw [Nat.add_assoc];exact h 2 _ rfl,by rw [Nat.add_assoc];exact h 3 _ rfl⟩
theorem mE (S:Nat) {w:World} {b o k:Nat} {a0 a1 a2 a3 a4 a5:Value} {r:List Value} (h:∀(j:Nat) (u:Value),(a0::a1::a2::a3::a4::a5::r)[j]? = some u→w.cell? ⟨b,o+(k * S+j),none⟩ = some u):w.cell? ⟨b,o+k * S,none⟩ = some a0∧w.cell? ⟨b,o+k * S+1,none⟩ = some a1∧w.cell? ⟨b,o+k * S+2,none⟩ = some a2∧w.cell? ⟨b,o+k * S+3,none⟩ = some a3∧w.cell? ⟨b,o+k * S+4,none⟩ = some a4∧w.cell? ⟨b,o+k * S+5,none⟩ = some a5:=⟨h 0 _ rfl,by rw [Nat.add_assoc];exact h 1 _ rfl,by rw [Nat.add_assoc];exact h 2 _ rfl,by rw [Nat.add_assoc];exact h 3 _ rfl,by rw [Nat.add_assoc];exact h 4 _ rfl,by rw [Nat.add_assoc];exact h 5 _ rfl⟩
theorem Y1 (S:Nat) {w:World} {b o k:Nat} {a0 a1 a2 a3 a4 a5 a6:Value} {r:List Value} (h:∀(j:Nat) (u:Value),(a0::a1::a2::a3::a4::a5::a6::r)[j]? = some u→w.cell? ⟨b,o+(k * S+j),none⟩ = some u):w.cell? ⟨b,o+k * S,none⟩ = some a0∧w.cell? ⟨b,o+k * S+1,none⟩ = some a1∧w.cell? ⟨b,o+k * S+2,none⟩ = some a2∧w.cell? ⟨b,o+k * S+3,none⟩ = some a3∧w.cell? ⟨b,o+k * S+4,none⟩ = some a4∧w.cell? ⟨b,o+k * S+5,none⟩ = some a5∧w.cell? ⟨b,o+k * S+6,none⟩ = some a6:=⟨h 0 _ rfl,by rw [Nat.add_assoc];exact h 1 _ rfl,by rw [Nat.add_assoc];exact h 2 _ rfl,by rw [Nat.add_assoc];exact h 3 _ rfl,by rw [Nat.add_assoc];exact h 4 _ rfl,by rw [Nat.add_assoc];exact h 5 _ rfl,by rw [Nat.add_assoc];exact h 6 _ rfl⟩
theorem oE (S:Nat) {w:World} {b o k:Nat} {a0 a1 a2 a3 a4 a5 a6 a7 a8:Value} {r:List Value} (h:∀(j:Nat) (u:Value),(a0::a1::a2::a3::a4::a5::a6::a7::a8::r)[j]? = some u→w.cell? ⟨b,o+(k * S+j),none⟩ = some u):w.cell? ⟨b,o+k * S,none⟩ = some a0∧w.cell? ⟨b,o+k * S+1,none⟩ = some a1∧w.cell? ⟨b,o+k * S+2,none⟩ = some a2∧w.cell? ⟨b,o+k * S+3,none⟩ = some a3∧w.cell? ⟨b,o+k * S+4,none⟩ = some a4∧w.cell? ⟨b,o+k * S+5,none⟩ = some a5∧w.cell? ⟨b,o+k * S+6,none⟩ = some a6∧w.cell? ⟨b,o+k * S+7,none⟩ = some a7∧w.cell? ⟨b,o+k * S+8,none⟩ = some a8:=⟨h 0 _ rfl,by rw [Nat.add_assoc];exact h 1 _ rfl,by rw [Nat.add_assoc];exact h 2 _ rfl,by rw [Nat.add_assoc];exact h 3 _ rfl,by rw [Nat.add_assoc];exact h 4 _ rfl,by rw [Nat.add_assoc];exact h 5 _ rfl,by rw [Nat.add_assoc];exact h 6 _ rfl,by rw [Nat.add_assoc];exact h 7 _ rfl,by rw [Nat.add_assoc];exact h 8 _ rfl⟩
theorem r' {n:Nat} {w w':World} {p:Addr} {u:Value} (h:Below n w w') (k:w.cell? p = some u) (hp:p.block < n):w'.cell? p = some u:=(h.cell hp).trans k
theorem H' {P:Prop} (h:P:=by exact fun _ _ d _ _ h=>by cases d <;> exact h):P:=h
theorem W' {P:Prop} (h:P:=by refine Or.inl ⟨rfl,fun wq hq=>?_⟩;have dc:=(aB hq).1;go_simp;try rfl):P:=h
theorem sq {a b:Nat} (hs:a≤b) {P:Prop} (h:a≤b→P:=by intro this;(try simp at this);omega):P:=h hs
theorem pz:(∀{α:Type} (a:List α) (i:Nat) (v:α),a.toArray.setIfInBounds i v = (a.set i v).toArray)∧(∀{α:Type} (x y:α) (l:List α),(x :: l).set 0 y = y :: l)∧(∀{α:Type} (x y:α) (l:List α) (n:Nat),(x :: l).set (n+1) y = x :: l.set n y):=⟨fun _ _ _=>List.setIfInBounds_toArray ..,fun _ _ _=>rfl,fun _ _ _ _=>rfl⟩
theorem bs {P:Prop} (h:P:=by repeat (first | with_reducible exact aj _ | with_reducible assumption | with_reducible refine ak ?_ _ | with_reducible refine ah ?_ (by assumption))) : P := h
theorem cg {P:Prop} (h:P:=by repeat (first | with_reducible exact aj _ | with_reducible assumption | with_reducible refine ak ?_ _ | with_reducible refine aA ?_ | with_reducible refine ah ?_ (by assumption))) : P := h
theorem Za {P:Prop} (h:P:=by first | exact hq | exact hq.out) : P := h
theorem pB {P:Prop} (h:P:=by repeat (first | with_reducible exact hq | with_reducible exact hq.out | with_reducible exact aj _ | with_reducible assumption | with_reducible refine ak ?_ _ | with_reducible refine ah ?_ Za | with_reducible refine ah ?_ (by assumption))) : P := h
theorem bz {P:Prop} (h:P:=by dsimp only;omega) : P := h
theorem Zc {P:Prop} (h:P:=by decide +kernel) : P := h
theorem ja {P:Prop} (h:P:=by unfold maxLen;omega) : P := h
theorem fd {P:Prop} (h:P:=by simp [World.setCell]) : P := h
theorem eu {P:Prop} (h:P:=by simp [Value.oneCell']) : P := h
theorem o3 {P:Prop} (h:P:=by first | exact bu | exact aj _) : P := h
theorem jS {P:Prop} (h:P:=by first | rfl | (simp;rfl)) : P := h
theorem auf {P:Prop} (h:P:=by unfold Func.isWrapper;first | (rw [if_pos Zc];kernel_rfl) | (rw [if_neg Zc];exact ⟨rfl,rfl⟩)) : P := h
theorem qe {P:Prop} (h:P:=by first | assumption | (unfold bi;omega)) : P := h
theorem Zd {P:Prop} (h:P:=by exact Nat.le_refl _) : P := h
theorem qi {P:Prop} (h:P:=by repeat (first | with_reducible exact aj _ | with_reducible assumption | with_reducible refine aC ?_ bz _ | with_reducible refine ak ?_ _ | with_reducible refine aA ?_ | with_reducible refine ah ?_ (by assumption))) : P := h
theorem ut {P:Prop} (h:P:=by first | exact aj _ | assumption) : P := h
theorem sK {P:Prop} (h:P:=by show w1.heap.size < _;omega) : P := h
theorem DZ {P:Prop} (h:P:=by simp only [Act.put,pz];rfl) : P := h
theorem D1 {P:Prop} (h:P:=by show w.heap.size+1+1 < _;omega) : P := h
theorem uz {P:Prop} (h:P:=by show 0 < _→_;intro _;omega) : P := h
theorem vB {P:Prop} (h:P:=by intro e;have:=hr _ e.symm;omega) : P := h
theorem Yq {P:Prop} (h:P:=by repeat (first | with_reducible exact RZ.out | with_reducible refine am.setCell ?_ bz _)) : P := h
theorem sE {P:Prop} (h:P:=by first | exact hq | exact ah (ak (aj _) _) hq) : P := h
theorem R8 {P:Prop} (h:P:=by show w.heap.size < _;omega) : P := h
theorem DW {P:Prop} (h:P:=by repeat (first | with_reducible exact QX | with_reducible refine aA ?_ | with_reducible refine aC ?_ Zd _ | with_reducible refine ak ?_ _ | with_reducible refine ah ?_ (by assumption))) : P := h
theorem pC {P:Prop} (h:P:=by unfold bi;omega) : P := h
theorem fh {P:Prop} (h:P:=by have:=(Qz).size;omega) : P := h
theorem fm {P:Prop} (h:P:=by have:=(cC).size;omega) : P := h
theorem gR {P:Prop} (h:P:=by have:=(bo).size;omega) : P := h
theorem vu {P:Prop} (h:P:=by rw [List.length_map,HJ.out,Nat.mul_one]) : P := h
theorem YS {P:Prop} (h:P:=by first | exact Nat.le_refl _ | (dsimp only;omega)) : P := h
theorem R9 {P:Prop} (h:P:=by dsimp only;have:=HS.out.lt;omega) : P := h
theorem O1 {P:Prop} (h:P:=by repeat (first | with_reducible exact bL | with_reducible exact aj _ | with_reducible assumption | with_reducible refine ak ?_ _ | with_reducible refine ah ?_ (by assumption))) : P := h
theorem YN {P:Prop} (h:P:=by first | exact ah bL hq | exact ah (ak bL _) hq | exact ah bL hq.out | exact ah (ak bL _) hq.out) : P := h
theorem auW {P:Prop} (h:P:=by obtain ⟨d0,hs⟩:=fF hA;rw [hs];rfl) : P := h
theorem ip {P:Prop} (h:P:=by rw [Addr.add_lit];exact e') : P := h
theorem Pb {P:Prop} (h:P:=by rw [List.length_append];exact vD) : P := h
theorem uA {P:Prop} (h:P:=by simpa using HN.out) : P := h
theorem sL {P:Prop} (h:P:=by first | rfl | go_num) : P := h
theorem IK {P:Prop} (h:P:=by rw [iC ap fq,Heq.out,he];rfl) : P := h
theorem Yj {P:Prop} (h:P:=by rw [List.take_succ_eq_append_getElem ap,J3];exact bb) : P := h
theorem Yk {P:Prop} (h:P:=by have e1:=U3.size;have e2:=hn.size;(try simp at e2);omega) : P := h
theorem Pc {P:Prop} (h:P:=by dsimp only;first | omega | (have:=n9.lt;omega)) : P := h
theorem R' {P:Prop} (h:P:=by repeat (first | with_reducible exact HS.out.aM | with_reducible refine aC ?_ YS _)) : P := h
theorem Zh {P:Prop} (h:P:=by repeat (first | with_reducible exact Zo.out | with_reducible refine am.setCell ?_ R8 _)) : P := h
theorem Zp {P:Prop} (h:P:=by repeat (first | with_reducible exact Pd.out.bX | with_reducible refine nN.xZ ?_ Zd _)) : P := h
theorem vE {P:Prop} (h:P:=by first | exact hq | exact hq.out | exact ah (ak (aj _) _) hq) : P := h
theorem Sa {P:Prop} (h:P:=by simp [Value.ownBlock]) : P := h
theorem AM {P:Prop} (h:P:=by have:=hF y hy;dsimp only;omega) : P := h
theorem Pe {P:Prop} (h:P:=by simpa using h) : P := h
theorem avq {P:Prop} (h:P:=by first | exact Nat.le_refl _ | (simp [World.setCell];done) | (simp [World.setCell];omega)) : P := h
theorem Sb {P:Prop} (h:P:=by dsimp only;first | omega | (have:=AN.lt;omega)) : P := h
theorem Sc {P:Prop} (h:P:=by have:=h.aM.size;omega) : P := h
theorem Sd {P:Prop} (h:P:=by unfold gY;with_reducible exact (ak me _)) : P := h
theorem avv {P:Prop} (h:P:=by simpa using hi) : P := h
theorem DS {P:Prop} (h:P:=by rw [HE.out];simp) : P := h
theorem D2 {P:Prop} (h:P:=by have:=h.hb;have:=h.hg;omega) : P := h
theorem YJ {P:Prop} (h:P:=by rw [iC ap fq,Heq.out];simpa using cq) : P := h
theorem avE {P:Prop} (h:P:=by first | exact av | rfl) : P := h
theorem Se {P:Prop} (h:P:=by rw [List.length_take];omega) : P := h
theorem Zr {P:Prop} (h:P:=by have:=aE.size;(try simp);omega) : P := h
theorem Pf {P:Prop} (h:P:=by have:=aE.size;simp;omega) : P := h
theorem AP {P:Prop} (h:P:=by rw [List.length_map,HJ.out];omega) : P := h
theorem kI {P:Prop} (h:P:=by have:=bF.size;omega) : P := h
theorem YV {P:Prop} (h:P:=by have:=hg.size;simpa using this) : P := h
theorem Zs {P:Prop} (h:P:=by unfold j7;rw [cJ,cE]) : P := h
theorem Zu {P:Prop} (h:P:=by unfold Em;rw [d'];simp) : P := h
theorem Zw {P:Prop} (h:P:=by unfold Em;rw [fW];simp) : P := h
theorem Zx {P:Prop} (h:P:=by unfold Em;simp [hh2]) : P := h
theorem Zy {P:Prop} (h:P:=by unfold Em;simp [hh1]) : P := h
theorem av2 {P:Prop} (h:P:=by rw [sG ap,tA];rfl) : P := h
theorem ZA {P:Prop} (h:P:=by dsimp only;first | omega | (have:=oa.lt;omega)) : P := h
theorem ZD {P:Prop} (h:P:=by repeat (first | with_reducible exact gH.out | with_reducible refine am.setCell ?_ R9 _)) : P := h
theorem ZE {P:Prop} (h:P:=by repeat (first | with_reducible exact RZ.out | with_reducible refine am.setCell ?_ R9 _)) : P := h
theorem av6 {P:Prop} (h:P:=by repeat (first | with_reducible exact HO.out | with_reducible refine am.setCell ?_ bz _)) : P := h
theorem Sf {P:Prop} (h:P:=by unfold KF;rw [fX]) : P := h
theorem ZF {P:Prop} (h:P:=by repeat (first | with_reducible exact HO.out | with_reducible refine am.drew ?_ | with_reducible refine am.setCell ?_ R8 _ | with_reducible refine am.alloc ?_ _ | with_reducible refine am.ext ?_ (by assumption))) : P := h
theorem ZG {P:Prop} (h:P:=by rw [List.length_append];exact AR) : P := h
theorem Pg {P:Prop} (h:P:=by have:=h.hg;dsimp only;omega) : P := h
theorem Ph {P:Prop} (h:P:=by rw [h] at hr;cases hr) : P := h
theorem awG {P:Prop} (h:P:=by rw [cell_of_row _ _ _ _ _ _ (heap_alloc_new wr _)];rfl) : P := h
theorem Pj {P:Prop} (h:P:=by rw [List.length_map];exact hl) : P := h
theorem Pk {P:Prop} (h:P:=by rw [YC ap HP.out];exact cT) : P := h
theorem Pm {P:Prop} (h:P:=by have:=bo.size;simp;omega) : P := h
theorem ZH {P:Prop} (h:P:=by intro e;have:=hr _ e.symm;have:=hF y hy;omega) : P := h
theorem awN {P:Prop} (h:P:=by have:=aE.size;have:=bA.size;(try simp);omega) : P := h
theorem ep {P:Prop} (h:P:=by first | exact m9 | (dsimp only;omega)) : P := h
theorem sA {P:Prop} (h:P:=by rw [Addr.add_lit];exact cw.block (wn.heap.size+1) (by simp) Sa) : P := h
theorem sB {P:Prop} (h:P:=by rw [Addr.add_lit];exact (cw.block wn.heap.size (by simp;omega) Sa).trans (heap_alloc_old _ _ (by simp))) : P := h
theorem awR {P:Prop} (h:P:=by have:=ly.out.size;have:=bF.size;omega) : P := h
theorem Ye {P:Prop} (h:P:=by rw [List.length_append,HJ.out];rfl) : P := h
theorem Pn {P:Prop} (h:P:=by rw [List.length_map,mF.out,Nat.mul_one]) : P := h
theorem awU {P:Prop} (h:P:=by have:=IJ.size;simp only [World.setCell,Array.size_modify] at *;omega) : P := h
theorem awV {P:Prop} (h:P:=by show y1.1.size≤_;unfold maxLen;omega) : P := h
theorem awW {P:Prop} (h:P:=by show y3.1.size≤_;unfold maxLen;omega) : P := h
theorem awX {P:Prop} (h:P:=by repeat (first | with_reducible exact HO.out | with_reducible exact am.ext HO.out bF | with_reducible refine am.ext ?_ (aA (aj _)) | with_reducible refine am.setCell ?_ R8 _ | with_reducible refine am.alloc ?_ _)) : P := h
theorem DQ {P:Prop} (h:P:=by repeat (first | with_reducible exact mR.out | with_reducible refine am.setCell ?_ bz _)) : P := h
theorem DH {P:Prop} (h:P:=by rw [List.length_take,fY];omega) : P := h
theorem ZJ {P:Prop} (h:P:=by have:=HJ.out;omega) : P := h
theorem qV {P:Prop} (h:P:=by first | exact mi | (dsimp only;omega)) : P := h
theorem Po {P:Prop} (h:P:=by simpa using hk) : P := h
theorem Yf {P:Prop} (h:P:=by repeat (first | with_reducible exact hO | with_reducible refine am.setCell ?_ bz _)) : P := h
theorem Yg {P:Prop} (h:P:=by repeat (first | with_reducible exact hB | with_reducible refine aC ?_ bz _)) : P := h
theorem Hb {P:Prop} (h:P:=by rw [HR.out];simp) : P := h
theorem uB {P:Prop} (h:P:=by rw [List.getElem?_append_right ZJ,show jj - s1.length = 0 by have:=HJ.out;omega];rfl) : P := h
theorem Yx {P:Prop} (h:P:=by repeat (first | with_reducible exact hO | with_reducible refine am.setCell ?_ bz _ | with_reducible refine am.alloc ?_ _)) : P := h
theorem Yy {P:Prop} (h:P:=by repeat (first | with_reducible exact hB | with_reducible refine aC ?_ bz _ | with_reducible refine ak ?_ _)) : P := h
theorem Ow {P:Prop} (h:P:=by repeat (first | with_reducible exact DP.out.aM | with_reducible refine aC ?_ bz _)) : P := h
theorem Sg {P:Prop} (h:P:=by unfold bi;dsimp only;omega) : P := h
theorem OE {P:Prop} (h:P:=by rw [cG];exact vP lw.out (B':=w.heap.size+1+1+1) (by omega)) : P := h
theorem aG0 {P:Prop} (h:P:=by repeat (first | with_reducible exact pu.out | with_reducible refine am.setCell ?_ bz _ | with_reducible refine ax7 ?_ oS.out)) : P := h
theorem R7 {P:Prop} (h:P:=by rw [kO (row:=gA) (S:=2) (fun _=>rfl),HJ.out]) : P := h
theorem Rj {P:Prop} (h:P:=by rw [List.length_take,Pp.out];omega) : P := h
theorem R6 {P:Prop} (h:P:=by rw [kO (row:=gl) (S:=3) (fun _=>rfl),HJ.out]) : P := h
theorem R5 {P:Prop} (h:P:=by rw [kO (row:=gb) (S:=4) (fun _=>rfl),HJ.out]) : P := h
theorem Rc {P:Prop} (h:P:=by simpa using h2) : P := h
theorem Pq {P:Prop} (h:P:=by rw [dB];exact ev) : P := h
theorem Pr {P:Prop} (h:P:=by have:=ZP.out;rw [HN.out] at this;exact this) : P := h
theorem Ps {P:Prop} (h:P:=by rw [List.length_drop,fY];omega) : P := h
theorem YQ {P:Prop} (h:P:=by rw [Jf.out,HI.out];exact cZ.out) : P := h
theorem ZQ {P:Prop} (h:P:=by simp [World.setCell,Array.getElem?_modify,h]) : P := h
theorem Sh {P:Prop} (h:P:=by repeat (first | with_reducible exact Gr.refl _ | with_reducible refine Gr.alloc ?_ _ | with_reducible refine Gr.drew ?_)) : P := h
theorem Sk {P:Prop} (h:P:=by unfold gY;with_reducible exact (aC (p:=⟨wr.heap.size,5,none⟩) (aC (p:=⟨wr.heap.size,4,none⟩) (aC (p:=⟨wr.heap.size,3,none⟩) (aC (p:=⟨wr.heap.size,2,none⟩) (aC (p:=⟨wr.heap.size,1,none⟩) (aC (p:=⟨wr.heap.size,0,none⟩) bu kR (.slice Nj r.Z.length Nk)) kR (.slice SB r.O.length SC)) kR (.int .i64 r.next)) kR (.int .i64 r.weights.pack)) kR (.int .i64 r.weights.af)) kR (.int .i64 r.weights.an))) : P := h
theorem Sp {P:Prop} (h:P:=by rw [HE.out,List.getElem?_map,List.getElem?_append_right ZJ,show jj - s1.length = 0 by have:=HJ.out;omega];rfl) : P := h
theorem ay {W w1:World} (hb:Below W.heap.size W w1):(∀b o,b < W.heap.size→w1.cell? ⟨b,o,none⟩ = W.cell? ⟨b,o,none⟩)∧(∀b o,b < W.heap.size→w1.frozen? ⟨b,o,none⟩ = W.frozen? ⟨b,o,none⟩) :=
 ⟨fun b o h=>hb.cell (p:=⟨b,o,none⟩) h,fun b o h=>hb.frozen (p:=⟨b,o,none⟩) h⟩
theorem aj (w:World):Below w.heap.size w w:=Below.refl _ _
theorem ah {w w1 w2:World} (h:Below w.heap.size w w1) (k:Below w1.heap.size w1 w2):Below w.heap.size w w2:=h.trans (k.mono h.size)
theorem ak {w w1:World} (h:Below w.heap.size w w1) (o:Obj):Below w.heap.size w (w1.alloc o):=h.alloc h.size o
theorem aA {w w1:World} (h:Below w.heap.size w w1):Below w.heap.size w w1.drew:=h.drew
theorem aC {w w1:World} (h:Below w.heap.size w w1) {p:Addr} (hp:w.heap.size≤p.block) (u:Value):Below w.heap.size w (w1.setCell p u):=h.setCell hp u
section
variable {H:Type} {enc:TypeId × Value→H} {P:Program}
theorem Zi {W W':World} (hl:laidOutB P = true) (hb:Below W.heap.size W W'):∀(ts:List TypeId) (vs:List Value) (ds:List (DataW H)) (ps:List MemPlace) (sp:Nat→Bool),
 (∀t∈ts,P.readableRec t = true∧t < P.types.size)→(∀x∈ps,x.block < W.heap.size)→(∀x∈ps,sp x.block = true) →
 DataW.TrodAll enc P W 0 (fun _=>true) true ts vs ds ps→DataW.TrodAll enc P W' 0 sp true ts vs ds ps
 | [],[],[],ps,sp,_,_,_,h=>h
 | t :: ts,v :: vs,d :: ds,ps,sp,ht,ap,iu,h=>by
   obtain ⟨p,q,h1,h2,rfl⟩:=h;refine ⟨p,q,?_,Zi hl hb ts vs ds q sp (fun t' h'=>ht t' (List.mem_cons_of_mem _ h')) (fun x hx=>ap x (List.mem_append_right _ hx)) (fun x hx=>iu x (List.mem_append_right _ hx)) h2,rfl⟩;obtain ⟨hr,hs⟩:=ht t (List.mem_cons_self ..);exact WideElems.Trod_stays hl hr hs h1 (fun x hx=>hb.same (ap x (List.mem_append_left _ hx))) (fun x hx=>iu x (List.mem_append_left _ hx))
 | [],_ :: _,_,_,_,_,_,_,h=>by simp [DataW.TrodAll] at h
 | [],[],_ :: _,_,_,_,_,_,h=>by simp [DataW.TrodAll] at h
 | _ :: _,[],_,_,_,_,_,_,h=>by simp [DataW.TrodAll] at h
 | _ :: _,_ :: _,[],_,_,_,_,_,h=>by simp [DataW.TrodAll] at h
theorem nO {f:Func} {s:ChangeSpec} {apart Ky uC:Bool} {W W':World} {args:Array Value} {ds gs:List (DataW H)} {kX:List MemPlace} {tb:TypeId}
 (hl:laidOutB P = true) (hr:∀t∈f.params.toList,P.readableRec t = true∧t < P.types.size) (htb:f.resultTypes = #[tb]) (Pt:P.underlying tb = some .bool)
 (vG:s.vars = []) (kz:s.fn H ds = { results:=[.lit (.bool true)],args:=ds,vars:=[] })
 (hW:DataW.Whole enc P f.params.toList s.vars apart W args.toList ds gs kX) (hb:Below W.heap.size W W') :
 s.post enc P f apart Ky uC false W args (.bool true) W':=by
 have ap:∀p∈kX,p.block < W.heap.size:=fun p hp=>hW.lt p hp;have ra:=hW;obtain ⟨p,q,hA,hV,rfl,hz,hn⟩:=ra;rw [vG] at hV;obtain ⟨rfl,rfl⟩:=trodVars_none hV;simp only [List.append_nil] at *;have Sq:∀(b:Nat) (sp:Nat→Bool) (hd:Bool),DataW.TrodAll enc P W' b sp hd f.resultTypes.toList ((Value.bool true).resultList f.resultTypes.size) (s.fn H (ds++[])).results []:=by intro b sp hd;rw [htb,List.append_nil,kz];exact trodAll_cons_mk (shut_bool Pt _) trodAll_mk0
 have vK:∀sp:Nat→Bool,(∀x∈p,sp x.block = true)→DataW.TrodAll enc P W' 0 sp true f.params.toList args.toList (s.fn H (ds++[])).args p:=by intro sp iu;rw [List.append_nil,kz];exact Zi hl hb _ _ _ _ _ hr ap iu hA
 have m':∀sp:Nat→Bool,DataW.TrodVars enc P W' sp s.vars (s.fn H (ds++[])).vars []:=by intro sp;rw [List.append_nil,kz,vG];rfl
 have hold:∀x∈p,(fun b=>decide (b < W.heap.size)) x.block = true:=fun x hx=>by simpa using ap x hx
 refine ⟨ds,[],p,[],p,[],hW,Sq _ _ _,vK _ hold,m' _,World.keptBut_mono (fun x hx=>⟨hx,by simpa using hx⟩) (hb.frame (·∈p)),fun hag=>by cases hag⟩
end
end Go.Proofs.YtjahcnjmjahbaaaGreat
