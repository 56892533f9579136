/- The frame of every law's proof: if the call returns true and leaves what was there as it was, the given post holds. No condition. -/
import Derived.Test.YtjahcnjmjahbaaaGreatRows
import Derived.Lib.Hide
import Derived.BigQuiet
import Derived.WalkSpells
import Derived.Deep.AppendLies
import Derived.Deep.Slices
import Derived.Handy
namespace Go.Proofs.YtjahcnjmjahbaaaGreat
open Go.ChangeShapes Go.WideShapes Go.ChangeAt Go.RowKit
set_option maxRecDepth 100000
theorem I {P:Prop} (h:P):Hid P:=Lib.hid h
theorem J {P:Prop} (h:P:=by omega):P:=h
theorem J' {P:Prop} (h:P:=by rfl):P:=h
theorem U' {P:Prop} (h:P:=by kernel_rfl):P:=h
theorem S' {P:Prop} (h:P:=by simp):P:=h
theorem N' {P:Prop} (h:P:=by go_num):P:=h
theorem Y' {P:Prop} (h:P:=by assumption):P:=h
theorem Bw {P:Prop} (h:P:=by
 intro HK;have bo:Below wn.heap.size wn wn.drew:=aA (aj _);refine aX 1 _ J' U' H' bo W' ?_;try simp only [Act.put,pz]
 refine aX 2 _ J' U' H' bo W' ?_;try simp only [Act.put,pz]
 refine aX 3 _ J' U' H' bo W' ?_;try simp only [Act.put,pz]
 refine aX 5 _ J' U' H' bo W' ?_;try simp only [Act.put,pz]
 refine aX 6 _ J' U' H' bo W' ?_;try simp only [Act.put,pz]
 refine aX 7 _ J' U' H' bo W' ?_;try simp only [Act.put,pz]
 refine aX 8 _ J' U' H' bo W' ?_;try simp only [Act.put,pz]
 refine D7 0 9 J' J' U' J' J' (λK hK=>?_) (λK hK=>?_)
 ·go_simp;refine hK _ _ (ak bo (.cells #[] 9)) ?_;try simp only [Act.put,pz]
  clear hK K;have Qz:=ak bo (.cells #[] 9);have KI:=D9 wn.drew 9 1 wn.heap.size rfl;refine D7 4 9 J' J' U' J' J' (λK hK=>?_) (λK hK=>?_)
  ·refine qQ qw _ _ J' (wn.drew.alloc (.cells #[] 9)) wn.heap.size _ 0 [] KI J' ⟨g,0,none⟩ jj cap ((s1.map Value.string)) J' zp (λq u hu=>(Qz.cell (p:=(⟨g,0,none⟩:Addr).add q) iG).trans (et.out q u hu)) (λu hu=>by obtain ⟨z0,_,rfl⟩:=List.mem_map.1 hu;rfl) J J fh ?_;intro v5 w5 aM cq fi;have bj:Below wn.heap.size wn w5:=Below.grown (Qz) cq fh (λq hq=>(KI.lt q hq).1);refine hK _ _ bj ?_;try simp only [Act.put,pz]
   clear hK K;refine bP 9 J' U' J' (λK hK=>?_);go_simp;refine hK _ _ (ak bj (.cells #[.string y] 9)) ?_;try simp only [Act.put,pz]
   clear hK K;have ce:=ak bj (.cells #[.string y] 9);refine bP 10 J' U' J' (λK hK=>?_);refine qQ qw _ _ J' (w5.alloc (.cells #[.string y] 9)) wn.heap.size v5 _ _ (mG aM (ak (aj _) _)) J' ⟨w5.heap.size,0,none⟩ 1 1 [.string y] J' J' (DI w5 9 [.string y] w5.heap.size rfl) (λu hu=>by rw [List.mem_singleton.1 hu];rfl) J J fl ?_;intro v7 w7 nK Ua l7;rw [show 0+jj = jj by omega,List.nil_append] at nK;obtain ⟨g9,p9,hv7,nr,lv,lw⟩:=wW nK J;subst hv7;have bx:Below wn.heap.size wn w7:=Below.grown (ce) Ua fl (λq hq=>(aM.lt q hq).1);exact Bx
  ·go_simp;refine hK _ _ (ak Qz (.cells #[.string y] 9)) ?_;try simp only [Act.put,pz]
   clear hK K;have ce:=ak Qz (.cells #[.string y] 9);replace KI:=mG KI (ak (aj _) (.cells #[.string y] 9));refine bP 4 J' U' J' (λK hK=>?_);refine qQ qw _ _ J' ((wn.drew.alloc (.cells #[] 9)).alloc (.cells #[.string y] 9)) wn.heap.size _ 0 [] KI J' ⟨g,0,none⟩ jj cap ((s1.map Value.string)) J' zp (λq u hu=>(ce.cell (p:=(⟨g,0,none⟩:Addr).add q) iG).trans (et.out q u hu)) (λu hu=>by obtain ⟨z0,_,rfl⟩:=List.mem_map.1 hu;rfl) J J fl ?_;intro v5 w5 aM cq fi;have bj:Below wn.heap.size wn w5:=Below.grown (ce) cq fl (λq hq=>(KI.lt q hq).1);refine hK _ _ bj ?_;try simp only [Act.put,pz]
   clear hK K;refine bP 10 J' U' J' (λK hK=>?_);refine qQ qw _ _ J' w5 wn.heap.size v5 _ _ aM J' ⟨wn.heap.size+1,0,none⟩ 1 1 [.string y] J' J' (λq u hu=>(World.cell?_of_block uM).trans ((DI (wn.drew.alloc (.cells #[] 9)) 9 [.string y] (wn.heap.size+1) S') q u hu)) (λu hu=>by rw [List.mem_singleton.1 hu];rfl) J J gU ?_;exact By
 ·go_simp;refine hK _ _ (ak bo (.cells #[.string y] 9)) ?_;try simp only [Act.put,pz]
  clear hK K;have ce:=ak bo (.cells #[.string y] 9);refine bP 0 J' U' J' (λK hK=>?_);go_simp;refine hK _ _ (ak ce (.cells #[] 9)) ?_;try simp only [Act.put,pz]
  clear hK K;have Qz:=ak ce (.cells #[] 9);have KI:=vP (D9 (wn.drew.alloc (.cells #[.string y] 9)) 9 1 (wn.heap.size+1) S') (B':=wn.heap.size) J;refine bP 4 J' U' J' (λK hK=>?_);refine qQ qw _ _ J' ((wn.drew.alloc (.cells #[.string y] 9)).alloc (.cells #[] 9)) wn.heap.size _ 0 [] KI J' ⟨g,0,none⟩ jj cap ((s1.map Value.string)) J' zp (λq u hu=>(Qz.cell (p:=(⟨g,0,none⟩:Addr).add q) iG).trans (et.out q u hu)) (λu hu=>by obtain ⟨z0,_,rfl⟩:=List.mem_map.1 hu;rfl) J J fh ?_;intro v5 w5 aM cq fi;have bj:Below wn.heap.size wn w5:=Below.grown (Qz) cq fh (λq hq=>(KI.lt q hq).1);refine hK _ _ bj ?_;try simp only [Act.put,pz]
  clear hK K;refine bP 10 J' U' J' (λK hK=>?_);refine qQ qw _ _ J' w5 wn.heap.size v5 _ _ aM J' ⟨wn.heap.size,0,none⟩ 1 1 [.string y] J' J' (λq u hu=>(World.cell?_of_block uN).trans ((DI wn.drew 9 [.string y] wn.heap.size rfl) q u hu)) (λu hu=>by rw [List.mem_singleton.1 hu];rfl) J J gU ?_
  exact By):P:=h
theorem mz {P:Prop} (h:P:=by
 exact By):P:=h
theorem Vn {P:Prop} (h:P:=by
 exact Bx):P:=h
theorem JN {P:Prop} (h:P:=by
 intro HK;have bo:Below wn.heap.size wn wn.drew:=aA (aj _);refine aX 1 _ J' U' H' bo W' ?_;try simp only [Act.put,pz]
 refine aX 2 _ J' U' H' bo W' ?_;try simp only [Act.put,pz]
 refine aX 3 _ J' U' H' bo W' ?_;try simp only [Act.put,pz]
 refine aX 4 _ J' U' H' bo W' ?_;try simp only [Act.put,pz]
 refine aX 6 _ J' U' H' bo W' ?_;try simp only [Act.put,pz]
 refine aX 7 _ J' U' H' bo W' ?_;try simp only [Act.put,pz]
 refine aX 8 _ J' U' H' bo W' ?_;try simp only [Act.put,pz]
 refine aX 9 _ J' U' H' bo W' ?_;try simp only [Act.put,pz]
 refine D7 0 10 J' J' U' J' J' (λK hK=>?_) (λK hK=>?_)
 ·go_simp;refine hK _ _ (ak bo (.cells #[] 48)) ?_;try simp only [Act.put,pz]
  clear hK K;have Qz:=ak bo (.cells #[] 48);have KI:=D9 wn.drew 48 9 wn.heap.size rfl;refine D7 5 10 J' J' U' J' J' (λK hK=>?_) (λK hK=>?_)
  ·refine qQ nL _ _ J' (wn.drew.alloc (.cells #[] 48)) wn.heap.size _ 0 [] KI J' ⟨g,0,none⟩ k dJ ((ds.take (k * 9))) J' Hu (λq u hu=>(Qz.cell (p:=(⟨g,0,none⟩:Addr).add q) iG).trans (et.out q u hu)) (λu hu=>jk.out u (List.mem_of_mem_take hu)) J J fh ?_;intro v5 w5 aM cq fi;have bj:Below wn.heap.size wn w5:=Below.grown (Qz) cq fh (λq hq=>(KI.lt q hq).1);refine hK _ _ bj ?_;try simp only [Act.put,pz]
   clear hK K;refine bP 10 J' U' J' (λK hK=>?_);go_simp;refine hK _ _ (ak bj (.cells #[.string n.name,.slice bY n.labels.length bZ,.int .i64 n.aw,.int .i64 n.mem,.int .i64 n.av,.slice eU n.af.length eX,.slice bg n.ae.length bn,.string ⟨#[]⟩,.int .i64 x.next] 48)) ?_;try simp only [Act.put,pz]
   clear hK K;have ce:=ak bj (.cells #[.string n.name,.slice bY n.labels.length bZ,.int .i64 n.aw,.int .i64 n.mem,.int .i64 n.av,.slice eU n.af.length eX,.slice bg n.ae.length bn,.string ⟨#[]⟩,.int .i64 x.next] 48);refine bP 11 J' U' J' (λK hK=>?_);refine qQ nL _ _ J' (w5.alloc (.cells #[.string n.name,.slice bY n.labels.length bZ,.int .i64 n.aw,.int .i64 n.mem,.int .i64 n.av,.slice eU n.af.length eX,.slice bg n.ae.length bn,.string ⟨#[]⟩,.int .i64 x.next] 48)) wn.heap.size v5 _ _ (mG aM (ak (aj _) _)) J' ⟨w5.heap.size,0,none⟩ 1 1 [.string n.name,.slice bY n.labels.length bZ,.int .i64 n.aw,.int .i64 n.mem,.int .i64 n.av,.slice eU n.af.length eX,.slice bg n.ae.length bn,.string ⟨#[]⟩,.int .i64 x.next] J' J' (DI w5 48 [.string n.name,.slice bY n.labels.length bZ,.int .i64 n.aw,.int .i64 n.mem,.int .i64 n.av,.slice eU n.af.length eX,.slice bg n.ae.length bn,.string ⟨#[]⟩,.int .i64 x.next] w5.heap.size rfl) ki.out J J fl ?_;intro v7 w7 nK Ua l7;rw [show 0+k = k by omega,List.nil_append] at nK;obtain ⟨g9,p9,hv7,nr,lv,lw⟩:=wW nK J;subst hv7;have bx:Below wn.heap.size wn w7:=Below.grown (ce) Ua fl (λq hq=>(aM.lt q hq).1);exact BA
  ·go_simp;refine hK _ _ (ak Qz (.cells #[.string n.name,.slice bY n.labels.length bZ,.int .i64 n.aw,.int .i64 n.mem,.int .i64 n.av,.slice eU n.af.length eX,.slice bg n.ae.length bn,.string ⟨#[]⟩,.int .i64 x.next] 48)) ?_;try simp only [Act.put,pz]
   clear hK K;have ce:=ak Qz (.cells #[.string n.name,.slice bY n.labels.length bZ,.int .i64 n.aw,.int .i64 n.mem,.int .i64 n.av,.slice eU n.af.length eX,.slice bg n.ae.length bn,.string ⟨#[]⟩,.int .i64 x.next] 48);replace KI:=mG KI (ak (aj _) (.cells #[.string n.name,.slice bY n.labels.length bZ,.int .i64 n.aw,.int .i64 n.mem,.int .i64 n.av,.slice eU n.af.length eX,.slice bg n.ae.length bn,.string ⟨#[]⟩,.int .i64 x.next] 48));refine bP 5 J' U' J' (λK hK=>?_);refine qQ nL _ _ J' ((wn.drew.alloc (.cells #[] 48)).alloc (.cells #[.string n.name,.slice bY n.labels.length bZ,.int .i64 n.aw,.int .i64 n.mem,.int .i64 n.av,.slice eU n.af.length eX,.slice bg n.ae.length bn,.string ⟨#[]⟩,.int .i64 x.next] 48)) wn.heap.size _ 0 [] KI J' ⟨g,0,none⟩ k dJ ((ds.take (k * 9))) J' Hu (λq u hu=>(ce.cell (p:=(⟨g,0,none⟩:Addr).add q) iG).trans (et.out q u hu)) (λu hu=>jk.out u (List.mem_of_mem_take hu)) J J fl ?_;intro v5 w5 aM cq fi;have bj:Below wn.heap.size wn w5:=Below.grown (ce) cq fl (λq hq=>(KI.lt q hq).1);refine hK _ _ bj ?_;try simp only [Act.put,pz]
   clear hK K;refine bP 11 J' U' J' (λK hK=>?_);refine qQ nL _ _ J' w5 wn.heap.size v5 _ _ aM J' ⟨wn.heap.size+1,0,none⟩ 1 1 [.string n.name,.slice bY n.labels.length bZ,.int .i64 n.aw,.int .i64 n.mem,.int .i64 n.av,.slice eU n.af.length eX,.slice bg n.ae.length bn,.string ⟨#[]⟩,.int .i64 x.next] J' J' (λq u hu=>(World.cell?_of_block uM).trans ((DI (wn.drew.alloc (.cells #[] 48)) 48 [.string n.name,.slice bY n.labels.length bZ,.int .i64 n.aw,.int .i64 n.mem,.int .i64 n.av,.slice eU n.af.length eX,.slice bg n.ae.length bn,.string ⟨#[]⟩,.int .i64 x.next] (wn.heap.size+1) S') q u hu)) ki.out J J gU ?_;exact JP
 ·go_simp;refine hK _ _ (ak bo (.cells #[.string n.name,.slice bY n.labels.length bZ,.int .i64 n.aw,.int .i64 n.mem,.int .i64 n.av,.slice eU n.af.length eX,.slice bg n.ae.length bn,.string ⟨#[]⟩,.int .i64 x.next] 48)) ?_;try simp only [Act.put,pz]
  clear hK K;have ce:=ak bo (.cells #[.string n.name,.slice bY n.labels.length bZ,.int .i64 n.aw,.int .i64 n.mem,.int .i64 n.av,.slice eU n.af.length eX,.slice bg n.ae.length bn,.string ⟨#[]⟩,.int .i64 x.next] 48);refine bP 0 J' U' J' (λK hK=>?_);go_simp;refine hK _ _ (ak ce (.cells #[] 48)) ?_;try simp only [Act.put,pz]
  clear hK K;have Qz:=ak ce (.cells #[] 48);have KI:=vP (D9 (wn.drew.alloc (.cells #[.string n.name,.slice bY n.labels.length bZ,.int .i64 n.aw,.int .i64 n.mem,.int .i64 n.av,.slice eU n.af.length eX,.slice bg n.ae.length bn,.string ⟨#[]⟩,.int .i64 x.next] 48)) 48 9 (wn.heap.size+1) S') (B':=wn.heap.size) J;refine bP 5 J' U' J' (λK hK=>?_);refine qQ nL _ _ J' ((wn.drew.alloc (.cells #[.string n.name,.slice bY n.labels.length bZ,.int .i64 n.aw,.int .i64 n.mem,.int .i64 n.av,.slice eU n.af.length eX,.slice bg n.ae.length bn,.string ⟨#[]⟩,.int .i64 x.next] 48)).alloc (.cells #[] 48)) wn.heap.size _ 0 [] KI J' ⟨g,0,none⟩ k dJ ((ds.take (k * 9))) J' Hu (λq u hu=>(Qz.cell (p:=(⟨g,0,none⟩:Addr).add q) iG).trans (et.out q u hu)) (λu hu=>jk.out u (List.mem_of_mem_take hu)) J J fh ?_;intro v5 w5 aM cq fi;have bj:Below wn.heap.size wn w5:=Below.grown (Qz) cq fh (λq hq=>(KI.lt q hq).1);refine hK _ _ bj ?_;try simp only [Act.put,pz]
  clear hK K;refine bP 11 J' U' J' (λK hK=>?_);refine qQ nL _ _ J' w5 wn.heap.size v5 _ _ aM J' ⟨wn.heap.size,0,none⟩ 1 1 [.string n.name,.slice bY n.labels.length bZ,.int .i64 n.aw,.int .i64 n.mem,.int .i64 n.av,.slice eU n.af.length eX,.slice bg n.ae.length bn,.string ⟨#[]⟩,.int .i64 x.next] J' J' (λq u hu=>(World.cell?_of_block uN).trans ((DI wn.drew 48 [.string n.name,.slice bY n.labels.length bZ,.int .i64 n.aw,.int .i64 n.mem,.int .i64 n.av,.slice eU n.af.length eX,.slice bg n.ae.length bn,.string ⟨#[]⟩,.int .i64 x.next] wn.heap.size rfl) q u hu)) ki.out J J gU ?_
  exact JP):P:=h
theorem JQ {P:Prop} (h:P:=by
 try simp only [Bool.and_false,Bool.and_true,Bool.false_and,Bool.and_self] at hp
 have HN:=I (gq hall.out hp);clear hp;go_wp2_with fail
 skip
 refine aF _ U' U' (aj _) ?_
 repeat ((first | refine aG J' ?_ | refine aH _ J' JR ?_);simp only [Act.put,pz])
 refine aN ?_;intro wn hn;replace hn:=hn.out;obtain ⟨km,ly⟩:=ay hn;have kn:w.heap.size < wn.heap.size:=sq hn.size;have ra:b' < wn.heap.size:=sq hn.size;try (have sc:wr.heap.size < wn.heap.size:=sq hn.size)
 have Vo:Below wr.heap.size wr wn:=bc;have JS:wn.cell? ⟨wr.heap.size,8,none⟩ = some (.int .i64 x.O[j+1].seq):=by rw [km _ _ S',cell_of_row _ _ _ _ _ _ (heap_alloc_new wr _)];rfl
 have anN:(j+1:Nat) < 12:=by omega
 obtain ⟨wo,hwo⟩:∃wo,wo = wr:=⟨_,rfl⟩;subst hwo;go_wp2_with fail
 go_loopw [5] (λi2 wi=>∃q:Nat,q<=j+1/\i2 = .int .i64 q/\Hid (∀u∈x.O.take q,(u.seq == x.O[j+1].seq) = false)/\Below wn.heap.size wn wi) (λi2 _=>j+1 - (intOf i2).toNat)
 case atStart=>exact ⟨0,Nat.zero_le _,rfl,by show ∀_,_;simp,aj _⟩
 case round =>
  obtain ⟨q,hq,rfl,HQ,hbi⟩:=hrel;have Fp:Below wo.heap.size wo wr:=ah Vo hbi;have Vp:Below w.heap.size w wr:=ah bu Fp;have ci0:=(ay Fp).1 _ 0 tX |>.trans c0;have ci1:=(ay Fp).1 _ 1 tX |>.trans c1;have ci2:=(ay Fp).1 _ 2 tX |>.trans c2;have ci3:=(ay Fp).1 _ 3 tX |>.trans c3;have ci4:=(ay Fp).1 _ 4 tX |>.trans c4;have ci5:=(ay Fp).1 _ 5 tX |>.trans c5;replace JS:=r' hbi JS J;have eW:w.heap.size < wr.heap.size:=by have:=Fp.size;omega
  have hxi:wo.heap.size < wr.heap.size:=by have:=hbi.size;omega
  by_cases hqk:q < j+1
  ·obtain ⟨b6,o6,ck6,Fk6,e,hbF6,LU,ma,aqC,Sp⟩:=Sl.get (α:=ag) (c:=bW) dM (show q < x.O.length by omega);have afi:=ma;obtain ⟨Ho,Hq,Xm,JK,JL,aan,AL,AO,Oz,anO,anP,acM,Xn,afj,afk,acN,aao,OA,hon6,aqD⟩:=kE afi;subst anO;obtain ⟨rfl,rfl⟩:b6 = b'/\o6 = o':=by simpa using e.symm
   clear e;obtain ⟨m0,m1,m2,m3,m4,m5,m6,m7,m8⟩:=oY 9 Sp;clear Sp afi anP;replace m8:=r' Vp m8 LU;have Sq:b6 < wr.heap.size:=(by have:=Vp.size;omega);have hqi:(q:Int) < ((j+1:Nat):Int):=J;have JT:q < x.O.length:=J;cases hse:(x.O[q].seq == x.O[j+1].seq) with
   | true =>
     have vK:seenIn (x.O.take (j+1)) x.O[j+1].seq = true:=by unfold seenIn;rw [List.any_eq_true];exact ⟨x.O[q],by rw [List.mem_take_iff_getElem];exact ⟨q,J,rfl⟩,hse⟩
     have HF:=I (DR am av2);go_wp2_with fail
     refine aF _ U' U' (aj _) ?_
     repeat ((first | refine aG J' ?_ | refine aH _ J' BB ?_);simp only [Act.put,pz])
     refine aN ?_;intro wz hz;replace hz:=hz.out;exact sd
   | false =>
     have zr:=I (yQ (p:=λu:ag=>u.seq == x.O[j+1].seq) JT HQ.out hse);go_wp2_with fail
     refine aF _ U' U' (aj _) ?_
     repeat ((first | refine aG J' ?_ | refine aH _ J' BB ?_);simp only [Act.put,pz])
     refine aN ?_;intro wz hz;replace hz:=hz.out;go_wp2;exact ⟨⟨q+1,J,N',zr.out,bc⟩,by simp [intOf];omega⟩
  ·obtain rfl:q = j+1:=by omega
   have vK:seenIn (x.O.take (j+1)) x.O[j+1].seq = false:=by exact JU
   have Gn:=I (gq hfresh.out (show DN x.O (j+1) = true by rw [sG am,vK];rfl));clear vK;go_wp2
   exact ⟨⟨j+1+1,J,N',HN.out,Gn.out,ah ax Fp⟩,by simp [intOf];omega⟩):P:=h
theorem pA {P:Prop} (h:P:=by
 try simp only [Bool.and_false,Bool.and_true,Bool.false_and,Bool.and_self] at hp
 have HF:=I (dW am hp);clear hp;go_wp2_with (go_at_call 70;refine (iQ x _ _ x.aa[j+1].name _ (aJ h bc) Ji.out).mono ?_;rw [HU.out];rintro e w5 ⟨rfl,bj⟩;obtain ⟨j7,kD⟩:=ay bj;have Es:w.heap.size < w5.heap.size:=(sq bj.size);have IV:b' < w5.heap.size:=(sq bj.size);(try have iL:wr.heap.size < w5.heap.size:=(sq bj.size)))
 clear q0 q1 q2 q3 q4 q5;refine aF _ U' U' (aj _) ?_
 repeat ((first | refine aG J' ?_ | refine aH _ J' J0 ?_);simp only [Act.put,pz])
 exact BC):P:=h
theorem J7 {P:Prop} (h:P:=by
 have bI:(ps,(a',bad)) = (P1,P2):=by exact BE
 obtain ⟨rfl,rfl⟩:ps = P1/\(a',bad) = P2:=Prod.mk.inj bI;clear bI;by_cases fJ:(j:Int) < (N2:Int)
 ·obtain rfl:bad = true:=by rcases hd with h0 | h0 <;> first | omega | exact h0
  exact Ka
 ·cases bad
  ·obtain ⟨Ap,cp,Gp,rfl,OL⟩:=ai.oJ ar bS bN;have X5:ai wr (w.heap.size+1+1) (⟨xs,ps,t4.1,⟨t1.1,t2.1,t3.1⟩⟩:aU) [.slice Ah xs.length ch,.slice Ap ps.length cp,.int .i64 t4.1,.int .i64 t1.1,.int .i64 t2.1,.int .i64 t3.1] (Gh++Gp):=ai.iI hO OL J j8 zt Ss Su Sw Sx;have PG:=I (show nZ s = if ((a',false):Int × Bool) = ((s.size:Int),false)/\iI (⟨xs,ps,t4.1,⟨t1.1,t2.1,t3.1⟩⟩:aU) = true then ((⟨xs,ps,t4.1,⟨t1.1,t2.1,t3.1⟩⟩:aU),true) else (nX,false) by unfold nZ;rw [mb.out]);have Kb:(ps.length:Int)<=1048576:=J;have Hv:=I (λ(wq:World) (hb:Below wr.heap.size wr wq)=>Dx (⟨xs,ps,t4.1,⟨t1.1,t2.1,t3.1⟩⟩:aU) _ _ wq (X5.ext hb).rd BS Kb Eo.out Ob.out);generalize iI (⟨xs,ps,t4.1,⟨t1.1,t2.1,t3.1⟩⟩:aU) = okb at *;have HO:=I X5;have HS:=I hS;have cO:=hS.bp.c1;have nt:=hS.bp.lt;obtain ⟨k0,k1,k2,k3,k4,k5⟩:=cw hS.box;have kl:=hS.box.lt;have kf:=hS.box.fz;obtain ⟨r0,r1,r2,r3,r4,r5⟩:=cw hS.rb;have rl:=hS.rb.lt;have rf:=hS.rb.fz;clear hS X5 OL hO ar bS bN QY BV S6 ma se WV bu;by_cases cD:a' = (s.size:Int)
   ·subst cD;cases okb
    ·have HF:=I (show nZ s = (nX,false) by rw [PG.out,if_neg S']);go_wp2_with fail
     refine (Hv.out _ bc).mono ?_;rintro e w7 ⟨rfl,bx⟩;have HB:=I (ah HS.out.below bx);have Lp:=HS.out.rb.ext bx;obtain ⟨q0,q1,q2,q3,q4,q5⟩:=cw Lp;have ql:=Lp.lt;have qf:=Lp.fz;clear Lp;try dsimp only
     iterate 60 (first | go_step | skip)
     exact Kc
    ·have HF:=I (show nZ s = ((⟨xs,ps,t4.1,⟨t1.1,t2.1,t3.1⟩⟩:aU),true) by rw [PG.out,if_pos S']);go_wp2_with fail
     refine (Hv.out _ bc).mono ?_;rintro e w7 ⟨rfl,bx⟩;have HB:=I (ah HS.out.below bx);have Lp:=HS.out.rb.ext bx;have vL:=HS.out.box.ext bx;obtain ⟨q0,q1,q2,q3,q4,q5⟩:=cw Lp;have ql:=Lp.lt;have qf:=Lp.fz;obtain ⟨m0,m1,m2,m3,m4,m5⟩:=cw vL;have ml:=vL.lt;have mf:=vL.fz;clear Lp vL;try dsimp only
     iterate 60 (first | go_step | skip)
     refine bodyPost_ret (v:=.tuple #[.agg #[.slice Ah xs.length ch,.slice Ap ps.length cp,.int .i64 t4.1,.int .i64 t1.1,.int .i64 t2.1,.int .i64 t3.1],.bool true]) (by simp [results,Tryz.results18,go_sem, *]) rfl ?_;rw [HF.out];have QX:=HB.out
     first
      | refine ⟨[.slice Ah xs.length ch,.slice Ap ps.length cp,.int .i64 t4.1,.int .i64 t1.1,.int .i64 t2.1,.int .i64 t3.1],Gh++Gp,rfl,?_,?_⟩
      | refine ⟨[.slice Ah xs.length ch,.slice Ap ps.length cp,.int .i64 t4.1,.int .i64 t1.1,.int .i64 t2.1,.int .i64 t3.1],rfl,⟨Gh++Gp,?_⟩,?_⟩
     ·try dsimp only
      refine ai.mono (B:=w.heap.size+1+1) ?_ J;exact awX
     ·exact auU
   ·have HF:=I (show nZ s = (nX,false) by rw [PG.out,if_neg (λh=>cD (Prod.mk.inj h.1).1)]);have Hy:(a' == (s.size:Int)) = false:=(by simp [cD]);have sf:(a' != (s.size:Int)) = true:=(by simp [cD]);have HB:=I HS.out.below;go_wp2_with fail
    iterate 60 (first | go_step | skip)
    exact Kc
  ·exact Ka):P:=h
theorem Kd {P:Prop} (h:P:=by
 have Vq:=I hS1;have HS2:=I hS2;have H1:=I he1;have H2:=I he2;clear hS1 hS2 he1 he2;go_enter Tryz.func151,Tryz.ntmps151;go_wp2_with fail
 refine (gQ x _ _ nm _ (aJ h bc) cA).mono ?_;rw [HI.out];rintro e w2 ⟨rfl,ap⟩;obtain ⟨bX,cE⟩:=ay ap;have cr:w.heap.size < w2.heap.size:=(sq ap.size);have nu:w.heap.size+1 < w2.heap.size:=(sq ap.size);have eu:Below w.heap.size w w2:=bc;go_wp2_with fail
 refine (jm x _ _ nm _ (aJ h bc) vk).mono ?_;rw [HU.out];rintro e w3 ⟨rfl,ba⟩;obtain ⟨cK,hf3⟩:=ay ba;have eN:w.heap.size < w3.heap.size:=(sq ba.size);have zv:w.heap.size+1 < w3.heap.size:=(sq ba.size);have cT:Below w.heap.size w w3:=ah eu ba;replace q0:=r' cT q0 hbs;replace q1:=r' cT q1 hbs;replace q2:=r' cT q2 hbs;replace q3:=r' cT q3 hbs;replace q4:=r' cT q4 hbs;replace q5:=r' cT q5 hbs;have jd:bh < w3.heap.size:=by have:=cT.size;omega
 go_wp2_with fail
 refine (oQ a p.aw _ ha kQ).mono ?_;rw [H1.out];rintro e w4 ⟨rfl,bC⟩;obtain ⟨ej,hf4⟩:=ay bC;have Wy:w.heap.size < w4.heap.size:=(sq bC.size);have vQ:w.heap.size+1 < w4.heap.size:=(sq bC.size);go_wp2_with fail
 refine (oQ b p.mem _ hb lg).mono ?_;rw [H2.out];rintro e w5 ⟨rfl,bj⟩;obtain ⟨j7,kD⟩:=ay bj;have Es:w.heap.size < w5.heap.size:=(sq bj.size);have IV:w.heap.size+1 < w5.heap.size:=(sq bj.size);have Dc:Below w3.heap.size w3 w5:=ah bC bj;replace q0:=r' Dc q0 jd;replace q1:=r' Dc q1 jd;replace q2:=r' Dc q2 jd;replace q3:=r' Dc q3 jd;replace q4:=r' Dc q4 jd;replace q5:=r' Dc q5 jd;have afO:bh < w5.heap.size:=by have:=Dc.size;omega
 go_wp2_with fail
 refine aF w5 U' U' (aj _) ?_
 repeat (first
  | (apply aG
     case hw=>rfl
     simp only [Act.put,pz])
  | (apply aH
     case hw=>rfl
     case h =>
      intro wq hq;have cN:=(aB hq).1;have lJ:=(aB hq).2;go_simp
      first
       | exact ⟨hq,rfl⟩
       | exact ⟨aQ hq _,rfl⟩
       | ((refine (IB _ _ _ pB pB).mono ?_;(first | rw [Vq.out] | rw [HS2.out]);rintro e wz ⟨rfl,nV⟩;exact ⟨rfl,aI hq nV⟩))
       | (simp only [↓IntWalk.iteOmega];exact ⟨hq,rfl⟩)
     simp only [Act.put,pz]))
 refine aN ?_;intro wn hn;replace hn:=hn.out;go_wp2;go_ret
 exact ⟨by rw [HF.out];first | rfl | (simp;exact HW2.out),ah cT (ah Dc hn)⟩):P:=h
theorem du {P:Prop} (h:P:=by
 exact BB):P:=h
theorem Ke {P:Prop} (h:P:=by
 intro HK;have bo:Below wn.heap.size wn wn.drew:=aA (aj _);refine aX 1 _ J' U' H' bo W' ?_;try simp only [Act.put,pz]
 refine aX 2 _ J' U' H' bo W' ?_;try simp only [Act.put,pz]
 refine aX 3 _ J' U' H' bo W' ?_;try simp only [Act.put,pz]
 refine aX 4 _ J' U' H' bo W' ?_;try simp only [Act.put,pz]
 refine aX 6 _ J' U' H' bo W' ?_;try simp only [Act.put,pz]
 refine D7 0 7 J' J' U' J' J' (λK hK=>?_) (λK hK=>?_)
 ·go_simp;refine hK _ _ (ak bo (.cells #[] 38)) ?_;try simp only [Act.put,pz]
  clear hK K;have Qz:=ak bo (.cells #[] 38);have KI:=D9 wn.drew 38 6 wn.heap.size rfl;refine D7 5 7 J' J' U' J' J' (λK hK=>?_) (λK hK=>?_)
  ·refine qQ nQ _ _ J' (wn.drew.alloc (.cells #[] 38)) wn.heap.size _ 0 [] KI J' ⟨g,0,none⟩ k bV ((ds.take (k * 6))) J' Hu (λq u hu=>(Qz.cell (p:=(⟨g,0,none⟩:Addr).add q) iG).trans (et.out q u hu)) (λu hu=>jk.out u (List.mem_of_mem_take hu)) J J fh ?_;intro v5 w5 aM cq fi;have bj:Below wn.heap.size wn w5:=Below.grown (Qz) cq fh (λq hq=>(KI.lt q hq).1);refine hK _ _ bj ?_;try simp only [Act.put,pz]
   clear hK K;refine bP 7 J' U' J' (λK hK=>?_);go_simp;refine hK _ _ (ak bj (.cells #[.string n.name,.slice bY n.labels.length bZ,.int .i64 n.aw,.int .i64 n.mem,.int .i64 n.slots,.slice wP n.aT.length wQ] 38)) ?_;try simp only [Act.put,pz]
   clear hK K;have ce:=ak bj (.cells #[.string n.name,.slice bY n.labels.length bZ,.int .i64 n.aw,.int .i64 n.mem,.int .i64 n.slots,.slice wP n.aT.length wQ] 38);refine bP 8 J' U' J' (λK hK=>?_);refine qQ nQ _ _ J' (w5.alloc (.cells #[.string n.name,.slice bY n.labels.length bZ,.int .i64 n.aw,.int .i64 n.mem,.int .i64 n.slots,.slice wP n.aT.length wQ] 38)) wn.heap.size v5 _ _ (mG aM (ak (aj _) _)) J' ⟨w5.heap.size,0,none⟩ 1 1 [.string n.name,.slice bY n.labels.length bZ,.int .i64 n.aw,.int .i64 n.mem,.int .i64 n.slots,.slice wP n.aT.length wQ] J' J' (DI w5 38 [.string n.name,.slice bY n.labels.length bZ,.int .i64 n.aw,.int .i64 n.mem,.int .i64 n.slots,.slice wP n.aT.length wQ] w5.heap.size rfl) ki.out J J fl ?_;intro v7 w7 nK Ua l7;rw [show 0+k = k by omega,List.nil_append] at nK;obtain ⟨g9,p9,hv7,nr,lv,lw⟩:=wW nK J;subst hv7;have bx:Below wn.heap.size wn w7:=Below.grown (ce) Ua fl (λq hq=>(aM.lt q hq).1);exact BW
  ·go_simp;refine hK _ _ (ak Qz (.cells #[.string n.name,.slice bY n.labels.length bZ,.int .i64 n.aw,.int .i64 n.mem,.int .i64 n.slots,.slice wP n.aT.length wQ] 38)) ?_;try simp only [Act.put,pz]
   clear hK K;have ce:=ak Qz (.cells #[.string n.name,.slice bY n.labels.length bZ,.int .i64 n.aw,.int .i64 n.mem,.int .i64 n.slots,.slice wP n.aT.length wQ] 38);replace KI:=mG KI (ak (aj _) (.cells #[.string n.name,.slice bY n.labels.length bZ,.int .i64 n.aw,.int .i64 n.mem,.int .i64 n.slots,.slice wP n.aT.length wQ] 38));refine bP 5 J' U' J' (λK hK=>?_);refine qQ nQ _ _ J' ((wn.drew.alloc (.cells #[] 38)).alloc (.cells #[.string n.name,.slice bY n.labels.length bZ,.int .i64 n.aw,.int .i64 n.mem,.int .i64 n.slots,.slice wP n.aT.length wQ] 38)) wn.heap.size _ 0 [] KI J' ⟨g,0,none⟩ k bV ((ds.take (k * 6))) J' Hu (λq u hu=>(ce.cell (p:=(⟨g,0,none⟩:Addr).add q) iG).trans (et.out q u hu)) (λu hu=>jk.out u (List.mem_of_mem_take hu)) J J fl ?_;intro v5 w5 aM cq fi;have bj:Below wn.heap.size wn w5:=Below.grown (ce) cq fl (λq hq=>(KI.lt q hq).1);refine hK _ _ bj ?_;try simp only [Act.put,pz]
   clear hK K;refine bP 8 J' U' J' (λK hK=>?_);refine qQ nQ _ _ J' w5 wn.heap.size v5 _ _ aM J' ⟨wn.heap.size+1,0,none⟩ 1 1 [.string n.name,.slice bY n.labels.length bZ,.int .i64 n.aw,.int .i64 n.mem,.int .i64 n.slots,.slice wP n.aT.length wQ] J' J' (λq u hu=>(World.cell?_of_block uM).trans ((DI (wn.drew.alloc (.cells #[] 38)) 38 [.string n.name,.slice bY n.labels.length bZ,.int .i64 n.aw,.int .i64 n.mem,.int .i64 n.slots,.slice wP n.aT.length wQ] (wn.heap.size+1) S') q u hu)) ki.out J J gU ?_;exact Kf
 ·go_simp;refine hK _ _ (ak bo (.cells #[.string n.name,.slice bY n.labels.length bZ,.int .i64 n.aw,.int .i64 n.mem,.int .i64 n.slots,.slice wP n.aT.length wQ] 38)) ?_;try simp only [Act.put,pz]
  clear hK K;have ce:=ak bo (.cells #[.string n.name,.slice bY n.labels.length bZ,.int .i64 n.aw,.int .i64 n.mem,.int .i64 n.slots,.slice wP n.aT.length wQ] 38);refine bP 0 J' U' J' (λK hK=>?_);go_simp;refine hK _ _ (ak ce (.cells #[] 38)) ?_;try simp only [Act.put,pz]
  clear hK K;have Qz:=ak ce (.cells #[] 38);have KI:=vP (D9 (wn.drew.alloc (.cells #[.string n.name,.slice bY n.labels.length bZ,.int .i64 n.aw,.int .i64 n.mem,.int .i64 n.slots,.slice wP n.aT.length wQ] 38)) 38 6 (wn.heap.size+1) S') (B':=wn.heap.size) J;refine bP 5 J' U' J' (λK hK=>?_);refine qQ nQ _ _ J' ((wn.drew.alloc (.cells #[.string n.name,.slice bY n.labels.length bZ,.int .i64 n.aw,.int .i64 n.mem,.int .i64 n.slots,.slice wP n.aT.length wQ] 38)).alloc (.cells #[] 38)) wn.heap.size _ 0 [] KI J' ⟨g,0,none⟩ k bV ((ds.take (k * 6))) J' Hu (λq u hu=>(Qz.cell (p:=(⟨g,0,none⟩:Addr).add q) iG).trans (et.out q u hu)) (λu hu=>jk.out u (List.mem_of_mem_take hu)) J J fh ?_;intro v5 w5 aM cq fi;have bj:Below wn.heap.size wn w5:=Below.grown (Qz) cq fh (λq hq=>(KI.lt q hq).1);refine hK _ _ bj ?_;try simp only [Act.put,pz]
  clear hK K;refine bP 8 J' U' J' (λK hK=>?_);refine qQ nQ _ _ J' w5 wn.heap.size v5 _ _ aM J' ⟨wn.heap.size,0,none⟩ 1 1 [.string n.name,.slice bY n.labels.length bZ,.int .i64 n.aw,.int .i64 n.mem,.int .i64 n.slots,.slice wP n.aT.length wQ] J' J' (λq u hu=>(World.cell?_of_block uN).trans ((DI wn.drew 38 [.string n.name,.slice bY n.labels.length bZ,.int .i64 n.aw,.int .i64 n.mem,.int .i64 n.slots,.slice wP n.aT.length wQ] wn.heap.size rfl) q u hu)) ki.out J J gU ?_
  exact Kf):P:=h
theorem Kg {P:Prop} (h:P:=by
 intro HK;have bo:Below wn.heap.size wn wn.drew:=aA (aj _);refine aX 1 _ J' U' H' bo W' ?_;try simp only [Act.put,pz]
 refine aX 2 _ J' U' H' bo W' ?_;try simp only [Act.put,pz]
 refine aX 3 _ J' U' H' bo W' ?_;try simp only [Act.put,pz]
 refine aX 5 _ J' U' H' bo W' ?_;try simp only [Act.put,pz]
 refine D7 0 6 J' J' U' J' J' (λK hK=>?_) (λK hK=>?_)
 ·go_simp;refine hK _ _ (ak bo (.cells #[] 89)) ?_;try simp only [Act.put,pz]
  clear hK K;have Qz:=ak bo (.cells #[] 89);have KI:=D9 wn.drew 89 3 wn.heap.size rfl;refine D7 4 6 J' J' U' J' J' (λK hK=>?_) (λK hK=>?_)
  ·refine qQ vR _ _ J' (wn.drew.alloc (.cells #[] 89)) wn.heap.size _ 0 [] KI J' ⟨g,0,none⟩ jj cap ((ds.take (jj * 3))) J' Vr (λq u hu=>(Qz.cell (p:=(⟨g,0,none⟩:Addr).add q) iG).trans (et.out q u hu)) (λu hu=>jk.out u (List.mem_of_mem_take hu)) J J fh ?_;intro v5 w5 aM cq fi;have bj:Below wn.heap.size wn w5:=Below.grown (Qz) cq fh (λq hq=>(KI.lt q hq).1);refine hK _ _ bj ?_;try simp only [Act.put,pz]
   clear hK K;refine bP 6 J' U' J' (λK hK=>?_);go_simp;refine hK _ _ (ak bj (.cells #[.string y.key,.int .i64 y.op,.slice Ay y.values.length cy] 89)) ?_;try simp only [Act.put,pz]
   clear hK K;have ce:=ak bj (.cells #[.string y.key,.int .i64 y.op,.slice Ay y.values.length cy] 89);refine bP 7 J' U' J' (λK hK=>?_);refine qQ vR _ _ J' (w5.alloc (.cells #[.string y.key,.int .i64 y.op,.slice Ay y.values.length cy] 89)) wn.heap.size v5 _ _ (mG aM (ak (aj _) _)) J' ⟨w5.heap.size,0,none⟩ 1 1 [.string y.key,.int .i64 y.op,.slice Ay y.values.length cy] J' J' (DI w5 89 [.string y.key,.int .i64 y.op,.slice Ay y.values.length cy] w5.heap.size rfl) ki.out J J fl ?_;intro v7 w7 nK Ua l7;rw [show 0+jj = jj by omega,List.nil_append] at nK;obtain ⟨g9,p9,hv7,nr,lv,lw⟩:=wW nK J;subst hv7;have bx:Below wn.heap.size wn w7:=Below.grown (ce) Ua fl (λq hq=>(aM.lt q hq).1);exact Kh
  ·go_simp;refine hK _ _ (ak Qz (.cells #[.string y.key,.int .i64 y.op,.slice Ay y.values.length cy] 89)) ?_;try simp only [Act.put,pz]
   clear hK K;have ce:=ak Qz (.cells #[.string y.key,.int .i64 y.op,.slice Ay y.values.length cy] 89);replace KI:=mG KI (ak (aj _) (.cells #[.string y.key,.int .i64 y.op,.slice Ay y.values.length cy] 89));refine bP 4 J' U' J' (λK hK=>?_);refine qQ vR _ _ J' ((wn.drew.alloc (.cells #[] 89)).alloc (.cells #[.string y.key,.int .i64 y.op,.slice Ay y.values.length cy] 89)) wn.heap.size _ 0 [] KI J' ⟨g,0,none⟩ jj cap ((ds.take (jj * 3))) J' Vr (λq u hu=>(ce.cell (p:=(⟨g,0,none⟩:Addr).add q) iG).trans (et.out q u hu)) (λu hu=>jk.out u (List.mem_of_mem_take hu)) J J fl ?_;intro v5 w5 aM cq fi;have bj:Below wn.heap.size wn w5:=Below.grown (ce) cq fl (λq hq=>(KI.lt q hq).1);refine hK _ _ bj ?_;try simp only [Act.put,pz]
   clear hK K;refine bP 7 J' U' J' (λK hK=>?_);refine qQ vR _ _ J' w5 wn.heap.size v5 _ _ aM J' ⟨wn.heap.size+1,0,none⟩ 1 1 [.string y.key,.int .i64 y.op,.slice Ay y.values.length cy] J' J' (λq u hu=>(World.cell?_of_block uM).trans ((DI (wn.drew.alloc (.cells #[] 89)) 89 [.string y.key,.int .i64 y.op,.slice Ay y.values.length cy] (wn.heap.size+1) S') q u hu)) ki.out J J gU ?_;exact Ki
 ·go_simp;refine hK _ _ (ak bo (.cells #[.string y.key,.int .i64 y.op,.slice Ay y.values.length cy] 89)) ?_;try simp only [Act.put,pz]
  clear hK K;have ce:=ak bo (.cells #[.string y.key,.int .i64 y.op,.slice Ay y.values.length cy] 89);refine bP 0 J' U' J' (λK hK=>?_);go_simp;refine hK _ _ (ak ce (.cells #[] 89)) ?_;try simp only [Act.put,pz]
  clear hK K;have Qz:=ak ce (.cells #[] 89);have KI:=vP (D9 (wn.drew.alloc (.cells #[.string y.key,.int .i64 y.op,.slice Ay y.values.length cy] 89)) 89 3 (wn.heap.size+1) S') (B':=wn.heap.size) J;refine bP 4 J' U' J' (λK hK=>?_);refine qQ vR _ _ J' ((wn.drew.alloc (.cells #[.string y.key,.int .i64 y.op,.slice Ay y.values.length cy] 89)).alloc (.cells #[] 89)) wn.heap.size _ 0 [] KI J' ⟨g,0,none⟩ jj cap ((ds.take (jj * 3))) J' Vr (λq u hu=>(Qz.cell (p:=(⟨g,0,none⟩:Addr).add q) iG).trans (et.out q u hu)) (λu hu=>jk.out u (List.mem_of_mem_take hu)) J J fh ?_;intro v5 w5 aM cq fi;have bj:Below wn.heap.size wn w5:=Below.grown (Qz) cq fh (λq hq=>(KI.lt q hq).1);refine hK _ _ bj ?_;try simp only [Act.put,pz]
  clear hK K;refine bP 7 J' U' J' (λK hK=>?_);refine qQ vR _ _ J' w5 wn.heap.size v5 _ _ aM J' ⟨wn.heap.size,0,none⟩ 1 1 [.string y.key,.int .i64 y.op,.slice Ay y.values.length cy] J' J' (λq u hu=>(World.cell?_of_block uN).trans ((DI wn.drew 89 [.string y.key,.int .i64 y.op,.slice Ay y.values.length cy] wn.heap.size rfl) q u hu)) ki.out J J gU ?_
  exact Ki):P:=h
theorem vW {P:Prop} (h:P:=by
 go_wp2_with fail
 clear q0 q1 q2 q3 q4 q5 q6 q7 q8;refine aF _ U' U' (aj _) ?_
 repeat ((first | refine aG J' ?_ | refine aH _ J' Kj ?_);simp only [Act.put,pz])
 exact BC):P:=h
theorem sg {P:Prop} (h:P:=by
 have HF:=I (dW am hp);clear hp;go_wp2_with (go_at_call 70;refine (iQ x _ _ x.aa[0].name _ (aJ h bc) Ji.out).mono ?_;rw [HU.out];rintro e w5 ⟨rfl,bj⟩;obtain ⟨j7,kD⟩:=ay bj;have Es:w.heap.size < w5.heap.size:=(sq bj.size);have IV:b < w5.heap.size:=(sq bj.size);(try have iL:wr.heap.size < w5.heap.size:=(sq bj.size)))
 clear q0 q1 q2 q3 q4 q5;refine aF _ U' U' (aj _) ?_
 repeat ((first | refine aG J' ?_ | refine aH _ J' Kk ?_);simp only [Act.put,pz])
 exact BY):P:=h
theorem Kl {P:Prop} (h:P:=by
 exact BC):P:=h
theorem vX {P:Prop} (h:P:=by
 try simp only [Bool.and_false,Bool.and_true,Bool.false_and,Bool.and_self] at hp
 have HF:=I (dW am hp);clear hp;go_wp2_with fail
 refine aF _ U' U' (aj _) ?_
 repeat ((first | refine aG J' ?_ | refine aH _ J' Km ?_);simp only [Act.put,pz])
 refine aN ?_;intro wn hn;replace hn:=hn.out;obtain ⟨km,ly⟩:=ay hn;have kn:w.heap.size < wn.heap.size:=sq hn.size;have ra:b' < wn.heap.size:=sq hn.size;try (have sc:wr.heap.size < wn.heap.size:=sq hn.size)
 go_wp2_with (go_at_call 57;refine (jm x _ _ x.aa[j+1].name _ (aJ h bc) Ji.out).mono ?_;rw [HU.out];rintro e w5 ⟨rfl,bj⟩;obtain ⟨j7,kD⟩:=ay bj;have Es:w.heap.size < w5.heap.size:=(sq bj.size);have IV:b' < w5.heap.size:=(sq bj.size);(try have iL:wr.heap.size < w5.heap.size:=(sq bj.size)))
 go_ret
 exact ⟨by rw [HF.out];rfl,bc⟩):P:=h
theorem we {P:Prop} (h:P:=by
 have HF:=I (dW am hp);clear hp;go_wp2_with fail
 refine aF _ U' U' (aj _) ?_
 repeat ((first | refine aG J' ?_ | refine aH _ J' Kn ?_);simp only [Act.put,pz])
 refine aN ?_;intro wn hn;replace hn:=hn.out;obtain ⟨km,ly⟩:=ay hn;have kn:w.heap.size < wn.heap.size:=sq hn.size;have ra:b < wn.heap.size:=sq hn.size;try (have sc:wr.heap.size < wn.heap.size:=sq hn.size)
 go_wp2_with (go_at_call 57;refine (jm x _ _ x.aa[0].name _ (aJ h bc) Ji.out).mono ?_;rw [HU.out];rintro e w5 ⟨rfl,bj⟩;obtain ⟨j7,kD⟩:=ay bj;have Es:w.heap.size < w5.heap.size:=(sq bj.size);have IV:b < w5.heap.size:=(sq bj.size);(try have iL:wr.heap.size < w5.heap.size:=(sq bj.size)))
 go_ret
 exact ⟨by rw [HF.out];rfl,bc⟩):P:=h
theorem wg {P:Prop} (h:P:=by
 go_wp2_with fail
 clear q0 q1 q2 q3 q4 q5 q6 q7 q8;refine aF _ U' U' (aj _) ?_
 repeat ((first | refine aG J' ?_ | refine aH _ J' Kp ?_);simp only [Act.put,pz])
 exact BY):P:=h
theorem B6 {P:Prop} (h:P:=by
 rintro e w1 ⟨ds,G,rfl,hO,bi⟩;have hR:=hO.rd;obtain ⟨kM,kN,ND,ny,nC,TD,aq,hGr,NG,TF,TG,xI,uD,xJ⟩:=aO hR;subst aq;clear hGr hR;have cG:=bi.size;simp at cG;have XB:oG w1 (w.heap.size+1+1) [.slice none 0 0,.slice none 0 0,.int .i64 0,.int .i64 0,.int .i64 0,.int .i64 0]:=oG.ext (oG.zA w _ _ [.slice none 0 0,.slice none 0 0,.int .i64 0,.int .i64 0,.int .i64 0,.int .i64 0] 29) bi;have HO:=I (hO.mono (B':=w.heap.size+1+1+1) S');have ap:Below w.heap.size w w1:=ah cc bi;clear hO bi h;try dsimp only
 iterate 8 go_step
 refine mA 29 _ _ rfl (w.heap.size+1+1) 0 [.slice kM R.aa.length kN,.slice ny R.O.length nC,.int .i64 R.next,.int .i64 R.weights.pack,.int .i64 R.weights.spread,.int .i64 R.weights.soft] [.slice none 0 0,.slice none 0 0,.int .i64 0,.int .i64 0,.int .i64 0,.int .i64 0] rfl rfl XB S' U' dv ?_;intro w2 YB OB;replace YB:oG w2 (w.heap.size+1+1) [.slice kM R.aa.length kN,.slice ny R.O.length nC,.int .i64 R.next,.int .i64 R.weights.pack,.int .i64 R.weights.spread,.int .i64 R.weights.soft]:=YB;try dsimp only [Act.put]
 go_wp2;refine bodyPost_ret (v:=.tuple #[.agg #[.slice kM R.aa.length kN,.slice ny R.O.length nC,.int .i64 R.next,.int .i64 R.weights.pack,.int .i64 R.weights.spread,.int .i64 R.weights.soft],.int .i64 cd]) (B9 Tryz.results66 _ (w.heap.size+1+1) [.slice kM R.aa.length kN,.slice ny R.O.length nC,.int .i64 R.next,.int .i64 R.weights.pack,.int .i64 R.weights.spread,.int .i64 R.weights.soft] _ _ rfl rfl YB Tryz.underlying29 rfl U') rfl ?_
 exact Kr):P:=h
theorem Ca {P:Prop} (h:P:=by
 go_wp2_with fail
 refine (gQ x _ _ nm _ (aJ h bc) cA).mono ?_;rw [HI.out];rintro e w2 ⟨rfl,ap⟩;obtain ⟨bX,cE⟩:=ay ap;have cr:w.heap.size < w2.heap.size:=(sq ap.size);have nu:w.heap.size+1 < w2.heap.size:=(sq ap.size);have eu:Below w.heap.size w w2:=bc;go_wp2_with fail
 refine (jm x _ _ nm _ (aJ h bc) vk).mono ?_;rw [HU.out];rintro e w3 ⟨rfl,ba⟩;obtain ⟨cK,hf3⟩:=ay ba;have eN:w.heap.size < w3.heap.size:=(sq ba.size);have zv:w.heap.size+1 < w3.heap.size:=(sq ba.size);have cT:Below w.heap.size w w3:=ah eu ba
 exact sd):P:=h
theorem Vs {P:Prop} (h:P:=by
 exact Kj):P:=h
theorem Cd {P:Prop} (h:P:=by
 have HS:=I hS;clear hS;have H1:=I he1;clear he1;have H2:=I he2;clear he2;go_wp2_with fail
 refine (Sy.out _ bc).mono ?_;rw [HS.out];rintro e w4 ⟨rfl,bC⟩;obtain ⟨ej,hf4⟩:=ay bC;have Wy:w.heap.size < w4.heap.size:=(sq bC.size);have vQ:w.heap.size+1 < w4.heap.size:=(sq bC.size);have Vt:w3.heap.size < w4.heap.size:=(sq bC.size);go_wp2_with fail
 refine (Sz.out _ bc).mono ?_;rintro e w5 ⟨rfl,bj⟩;obtain ⟨j7,kD⟩:=ay bj;have Es:w.heap.size < w5.heap.size:=(sq bj.size);have IV:w.heap.size+1 < w5.heap.size:=(sq bj.size);have iL:w3.heap.size < w5.heap.size:=(sq bj.size);go_wp2_with fail
 refine (oQ a p.aw _ ha kQ).mono ?_;rw [H1.out];rintro e w6 ⟨rfl,dx⟩;obtain ⟨Sp,Xe⟩:=ay dx;have uQ:w.heap.size < w6.heap.size:=(sq dx.size);have hy6:w.heap.size+1 < w6.heap.size:=(sq dx.size);have pC:w3.heap.size < w6.heap.size:=(sq dx.size);go_wp2_with fail
 refine (oQ b p.mem _ hb lg).mono ?_;rw [H2.out];rintro e w7 ⟨rfl,bx⟩;obtain ⟨hc7,hf7⟩:=ay bx;have o0:w.heap.size < w7.heap.size:=(sq bx.size);have hy7:w.heap.size+1 < w7.heap.size:=(sq bx.size);have hx7:w3.heap.size < w7.heap.size:=(sq bx.size)
 exact Cf):P:=h
theorem Ks {P:Prop} (h:P:=by
 exact BY):P:=h
theorem Kt {P:Prop} (h:P:=by
 have HN:=I (gq hall.out hp);clear hp;go_wp2_with fail
 skip
 refine aF _ U' U' (aj _) ?_
 repeat ((first | refine aG J' ?_ | refine aH _ J' Ku ?_);simp only [Act.put,pz])
 refine aN ?_;intro wn hn;replace hn:=hn.out;obtain ⟨km,ly⟩:=ay hn;have kn:w.heap.size < wn.heap.size:=sq hn.size;have ra:b < wn.heap.size:=sq hn.size;try (have sc:wr.heap.size < wn.heap.size:=sq hn.size)
 have Vo:Below wr.heap.size wr wn:=bc;have JS:wn.cell? ⟨wr.heap.size,8,none⟩ = some (.int .i64 x.O[0].seq):=by rw [km _ _ S',cell_of_row _ _ _ _ _ _ (heap_alloc_new wr _)];rfl
 have anN:(0:Nat) < 12:=by omega
 obtain ⟨wo,hwo⟩:∃wo,wo = wr:=⟨_,rfl⟩;subst hwo;go_wp2_with fail
 go_loopw [5] (λi2 wi=>∃q:Nat,q<=0/\i2 = .int .i64 q/\Hid (∀u∈x.O.take q,(u.seq == x.O[0].seq) = false)/\Below wn.heap.size wn wi) (λi2 _=>0 - (intOf i2).toNat)
 case atStart=>exact ⟨0,Nat.zero_le _,rfl,by show ∀_,_;simp,aj _⟩
 case round =>
  obtain ⟨q,hq,rfl,HQ,hbi⟩:=hrel;have Fp:Below wo.heap.size wo wr:=ah Vo hbi;have Vp:Below w.heap.size w wr:=ah bu Fp;have ci0:=(ay Fp).1 _ 0 tX |>.trans c0;have ci1:=(ay Fp).1 _ 1 tX |>.trans c1;have ci2:=(ay Fp).1 _ 2 tX |>.trans c2;have ci3:=(ay Fp).1 _ 3 tX |>.trans c3;have ci4:=(ay Fp).1 _ 4 tX |>.trans c4;have ci5:=(ay Fp).1 _ 5 tX |>.trans c5;replace JS:=r' hbi JS J;have eW:w.heap.size < wr.heap.size:=by have:=Fp.size;omega
  have hxi:wo.heap.size < wr.heap.size:=by have:=hbi.size;omega
  by_cases hqk:q < 0
  ·exact absurd hqk J
  ·obtain rfl:q = 0:=by omega
   have vK:seenIn (x.O.take (0)) x.O[0].seq = false:=by exact JU
   have Gn:=I (gq hfresh.out (show DN x.O (0) = true by rw [sG am,vK];rfl));clear vK;go_wp2
   exact ⟨⟨0+1,J,N',HN.out,Gn.out,ah ax Fp⟩,by simp [intOf];omega⟩):P:=h
theorem Vu {P:Prop} (h:P:=by
 exact Kp):P:=h
theorem Kv {P:Prop} (h:P:=by
 rw [HK.out];rintro e w2 ⟨rfl,ap⟩;obtain ⟨bX,cE⟩:=ay ap;have cr:w.heap.size < w2.heap.size:=by have:=ap.size;simp at this;omega
 have lz:w2.cell? ⟨w.heap.size,1,none⟩ = some (.int .i64 x.op):=by rw [bX _ _ S',cell_of_row _ _ _ _ _ _ (heap_alloc_new w _)];rfl
 have me:w2.cell? ⟨w.heap.size,2,none⟩ = some (.slice jy x.values.length ji):=by rw [bX _ _ S',cell_of_row _ _ _ _ _ _ (heap_alloc_new w _)];rfl
 have eu:Below w.heap.size w w2:=bc;clear bX cE;go_wp2;go_ret
 exact ⟨by rw [HF.out];first | rfl | simp_all,eu⟩):P:=h
theorem Vv {P:Prop} (h:P:=by
 exact JR):P:=h
theorem Kx {P:Prop} (h:P:=by
 have bI:(ys,(a3,bad)) = (T1,T2):=by exact BE
 obtain ⟨rfl,rfl⟩:ys = T1/\(a3,bad) = T2:=Prod.mk.inj bI;clear bI;obtain ⟨A8,c8,G8,hv8,hOT⟩:=ai.oJ ar bS (λ_ _ hb=>by cases hb);subst hv8;have rc:=hU.own SA.out (λy hy hb=>by have:=uO y hy;simp only [List.mem_cons,List.not_mem_nil,or_false] at hb;omega);have nU:=hU.own si.out (λy hy hb=>by have:=si.out.base y hy;simp only [List.mem_cons,List.not_mem_nil,or_false] at hb;omega);have Zm:ai wr (w1.heap.size+1) (⟨t1.1,L.1,c.1,m.1,o.1,xs,ys⟩:nI) [.string t1.1,.slice A2 L.1.length c2,.int .i64 c.1,.int .i64 m.1,.int .i64 o.1,.slice A6 xs.length c6,.slice A8 ys.length c8] (G2++(G6++G8)):=by exact Ky
 have HF:=I (show HW = ((⟨t1.1,L.1,c.1,m.1,o.1,xs,ys⟩:nI),(a3,bad)) by rw [mb.out]);obtain ⟨j0,j1,j2,j3,j4,j5,j6⟩:=nv hS.box;have jl:=hS.box.lt;obtain ⟨r0,r1,r2,r3,r4,r5,r6⟩:=nv hS.rb;have rl:=hS.rb.lt;have rf:=hS.rb.fz;have gg:=hS.bp.c2;have nw:=hS.bp.lt;have Cg:=I hS;have SF:=I Zm;clear Zm hOT rc nU ar bS hS hU;by_cases fJ:(j:Int) < (N2:Int)
 ·obtain rfl:bad = true:=by rcases hd with h0 | h0 <;> first | omega | exact h0
  exact KJ
 ·exact KJ):P:=h
theorem ep {P:Prop} (h:P:=by
 exact sd):P:=h
theorem KM {P:Prop} (h:P:=by
 exact Km):P:=h
theorem Vw {P:Prop} (h:P:=by
 exact Ku):P:=h
theorem KQ {P:Prop} (h:P:=by
 have HC:=I hc;have HN:=I hn;clear hc hn;go_wp2_with fail
 refine (wh x _ _ _ (aZ h cc) HW.out).mono ?_;rintro e w1 ⟨mi,G1,rfl,jX,bi,hRM⟩;obtain ⟨cO,eO⟩:=ay bi;have Ch:w.heap.size < w1.heap.size:=sq bi.size;have Ck:w.heap.size+1 < w1.heap.size:=sq bi.size;have Cl:w.heap.size+1+1 < w1.heap.size:=sq bi.size;have dk:=jX.rd;obtain ⟨dG,bV,xq,dS,dJ,Bz,aq,hG1,oO,tq,wI,iV,gI,iW⟩:=aO dk;subst aq;clear hG1 dk;go_wp2_with fail
 refine (SI u _ _ _ (aZ h' cc) HU.out).mono ?_;rw [HN.out];rintro e w2 ⟨Cn,G2,rfl,bA,ap⟩;obtain ⟨bX,cE⟩:=ay ap;have Co:w.heap.size < w2.heap.size:=sq ap.size;have Cr:w.heap.size+1 < w2.heap.size:=sq ap.size;have Cs:w.heap.size+1+1 < w2.heap.size:=sq ap.size;have Ct:w1.heap.size < w2.heap.size:=sq ap.size;have jn:=bA.rd;obtain ⟨bY,bZ,iq,eU,eX,jV,bg,bn,dK,aq,hG2,jW,dA,kQ,lg,lG,iO,bK⟩:=dL jn;subst aq;clear hG2 jn;go_wp2_with fail
 refine (qM x _ _ _ (aZ h cc) HW.out).mono ?_;rw [HC.out];rintro e w3 ⟨rfl,ba⟩;obtain ⟨cK,hf3⟩:=ay ba;have Cu:w.heap.size < w3.heap.size:=sq ba.size;have Cv:w.heap.size+1 < w3.heap.size:=sq ba.size;have Cw:w.heap.size+1+1 < w3.heap.size:=sq ba.size;have Cx:w1.heap.size < w3.heap.size:=sq ba.size;have Cy:w2.heap.size < w3.heap.size:=sq ba.size;have HI:=I eZ;clear eZ;go_wp2_with fail
 refine (Hz x _ _ n.name _ (aZ h cc) Ji.out).mono ?_;rw [HI.out];rintro e w4 ⟨rfl,bC⟩;obtain ⟨ej,hf4⟩:=ay bC;have KS:w.heap.size < w4.heap.size:=sq bC.size;have KU:w.heap.size+1 < w4.heap.size:=sq bC.size;have KV:w.heap.size+1+1 < w4.heap.size:=sq bC.size;have KW:w1.heap.size < w4.heap.size:=sq bC.size;have KX:w2.heap.size < w4.heap.size:=sq bC.size;have mj:Hid (ai w4 (w.heap.size+1+1+1) x [.slice dG x.aa.length bV,.slice dS x.O.length dJ,.int .i64 x.next,.int .i64 x.weights.pack,.int .i64 x.weights.spread,.int .i64 x.weights.soft] G1):=I ((((((jX.mono S').alloc _).ext ap).alloc _).ext ba).ext bC);clear jX bA hRM;go_wp2_with fail
 try dsimp only
 iterate 60 (first | go_step | skip)
 refine bodyPost_ret (v:=.tuple #[.agg #[.slice dG x.aa.length bV,.slice dS x.O.length dJ,.int .i64 x.next,.int .i64 x.weights.pack,.int .i64 x.weights.spread,.int .i64 x.weights.soft],.int .i64 4]) (by simp [results,Tryz.results159,go_sem, *]) rfl ?_
 exact Cz):P:=h
theorem KY {P:Prop} (h:P:=by
 exact Kn):P:=h
theorem CA {P:Prop} (h:P:=by
 have rr:=HS.out.box.lt;go_wp2_with fail
 refine (Vx x _ _ v3 (SJ HX.out HS.out.below) cU dm CC hv).mono ?_;rintro e w8 ⟨Vy,G8,rfl,sV,lA⟩;have T8:=HS.out.ext lA;have SY:=sV;obtain ⟨sj,aHA,aJp,aIC,aID,aBA,aHF,aHG,aJF,ayd,hF9,aye,aJq,aAR,aAS,aDs,aBB,aJG⟩:=dL sV.rd;subst ayd;clear hF9 sV;obtain ⟨r0,r1,r2,r3,r4,r5,r6⟩:=nv T8.rb;have rf:=T8.rb.fz;have rl:=T8.rb.lt;have mj:=I SY;have H9:=I T8;have Vz:w.heap.size+1 < v3.heap.size:=HS.out.rb.lt;clear SY T8 lA;go_wp2_with fail
 try dsimp only
 iterate 60 (first | go_step | skip)
 refine bodyPost_ret (v:=.tuple #[.agg #[.string x.name,.slice sj x.labels.length aHA,.int .i64 x.aw,.int .i64 x.mem,.int .i64 x.av,.slice aIC x.af.length aID,.slice aHF x.ae.length aHG],.bool false]) (by simp [results,Tryz.results187,go_sem, *]) rfl ⟨[.string x.name,.slice sj x.labels.length aHA,.int .i64 x.aw,.int .i64 x.mem,.int .i64 x.av,.slice aIC x.af.length aID,.slice aHF x.ae.length aHG],G8,by rw [o3.out];try rfl,?_,?_⟩
 ·rw [o3.out];refine ai.mono (B:=v3.heap.size) ?_ J;exact Ia
 ·exact SK):P:=h
theorem K0 {P:Prop} (h:P:=by
 have HC:=I hc;have HN:=I hn;clear hc hn;go_wp2_with fail
 refine (wh x _ _ _ (aZ h cc) HW.out).mono ?_;rintro e w1 ⟨mi,G1,rfl,jX,bi,hRM⟩;obtain ⟨cO,eO⟩:=ay bi;have Ch:w.heap.size < w1.heap.size:=sq bi.size;have Ck:w.heap.size+1 < w1.heap.size:=sq bi.size;have Cl:w.heap.size+1+1 < w1.heap.size:=sq bi.size;have dk:=jX.rd;obtain ⟨dG,bV,xq,dS,dJ,Bz,aq,hG1,oO,tq,wI,iV,gI,iW⟩:=aO dk;subst aq;clear hG1 dk;go_wp2_with fail
 refine (SI u _ _ _ (aZ h' cc) HU.out).mono ?_;rw [HN.out];rintro e w2 ⟨Cn,G2,rfl,bA,ap⟩;obtain ⟨bX,cE⟩:=ay ap;have Co:w.heap.size < w2.heap.size:=sq ap.size;have Cr:w.heap.size+1 < w2.heap.size:=sq ap.size;have Cs:w.heap.size+1+1 < w2.heap.size:=sq ap.size;have Ct:w1.heap.size < w2.heap.size:=sq ap.size;have jn:=bA.rd;obtain ⟨bY,bZ,iq,eU,eX,jV,bg,bn,dK,aq,hG2,jW,dA,kQ,lg,lG,iO,bK⟩:=dL jn;subst aq;clear hG2 jn;go_wp2_with fail
 refine (qM x _ _ _ (aZ h cc) HW.out).mono ?_;rw [HC.out];rintro e w3 ⟨rfl,ba⟩;obtain ⟨cK,hf3⟩:=ay ba;have Cu:w.heap.size < w3.heap.size:=sq ba.size;have Cv:w.heap.size+1 < w3.heap.size:=sq ba.size;have Cw:w.heap.size+1+1 < w3.heap.size:=sq ba.size;have Cx:w1.heap.size < w3.heap.size:=sq ba.size;have Cy:w2.heap.size < w3.heap.size:=sq ba.size;have mj:Hid (ai w3 (w.heap.size+1+1+1) x [.slice dG x.aa.length bV,.slice dS x.O.length dJ,.int .i64 x.next,.int .i64 x.weights.pack,.int .i64 x.weights.spread,.int .i64 x.weights.soft] G1):=I (((((jX.mono S').alloc _).ext ap).alloc _).ext ba);clear jX bA hRM;go_wp2_with fail
 try dsimp only
 iterate 60 (first | go_step | skip)
 refine bodyPost_ret (v:=.tuple #[.agg #[.slice dG x.aa.length bV,.slice dS x.O.length dJ,.int .i64 x.next,.int .i64 x.weights.pack,.int .i64 x.weights.spread,.int .i64 x.weights.soft],.int .i64 1]) (by simp [results,Tryz.results159,go_sem, *]) rfl ?_
 exact Cz):P:=h
theorem K1 {P:Prop} (h:P:=by
 exact BA):P:=h
theorem K2 {P:Prop} (h:P:=by
 exact BW):P:=h
theorem mB {P:Prop} (h:P:=by
 go_wp2_with (first | (go_at_call 40;refine (pJ a.labels b.labels _ _ _ _ _ _ _ (jr.ext bc) (dA.ext bc)).mono ?_;rw [LH.out];rintro e w1 ⟨rfl,bi⟩;obtain ⟨cO,eO⟩:=ay bi;have zO:w.heap.size < w1.heap.size:=(sq bi.size);have CO:w.heap.size+1 < w1.heap.size:=(sq bi.size)))
 go_ret
 exact ⟨by rw [HF.out];rfl,bc⟩):P:=h
theorem wj {P:Prop} (h:P:=by
 go_wp2_with fail
 refine aF _ U' U' (aj _) ?_
 repeat ((first | refine aG J' ?_ | refine aH _ J' K3 ?_);simp only [Act.put,pz])
 refine aN ?_;intro wn wv;replace wv:=wv.out;have H2:=H.out.ext wv;have cE:=H2.fz 2;have sk:=H2.lt;have Ib:=H2.c2;go_wp2;go_ret
 rw [HF.out]
 exact ⟨rfl,H2.bad,(nN.lq [b] wv).setCell S' _⟩):P:=h
theorem K4 {P:Prop} (h:P:=by
 have HC:=I hc;have HN:=I hn;clear hc hn;go_wp2_with fail
 refine (wh x _ _ _ (aZ h cc) HW.out).mono ?_;rintro e w1 ⟨mi,G1,rfl,jX,bi,hRM⟩;obtain ⟨cO,eO⟩:=ay bi;have Ch:w.heap.size < w1.heap.size:=sq bi.size;have Ck:w.heap.size+1 < w1.heap.size:=sq bi.size;have Cl:w.heap.size+1+1 < w1.heap.size:=sq bi.size;have dk:=jX.rd;obtain ⟨dG,bV,xq,dS,dJ,Bz,aq,hG1,oO,tq,wI,iV,gI,iW⟩:=aO dk;subst aq;clear hG1 dk;go_wp2_with fail
 refine (SL u _ _ _ (aZ h' cc) HU.out).mono ?_;rw [HN.out];rintro e w2 ⟨Cn,G2,rfl,bA,ap⟩;obtain ⟨bX,cE⟩:=ay ap;have Co:w.heap.size < w2.heap.size:=sq ap.size;have Cr:w.heap.size+1 < w2.heap.size:=sq ap.size;have Cs:w.heap.size+1+1 < w2.heap.size:=sq ap.size;have Ct:w1.heap.size < w2.heap.size:=sq ap.size;have jn:=bA.rd;obtain ⟨bY,bZ,iq,wP,wQ,Qe,aq,hG2,jW,dA,kQ,lg,Nh,Bd⟩:=iy jn;subst aq;clear hG2 jn;go_wp2_with fail
 refine (qM x _ _ _ (aZ h cc) HW.out).mono ?_;rw [HC.out];rintro e w3 ⟨rfl,ba⟩;obtain ⟨cK,hf3⟩:=ay ba;have Cu:w.heap.size < w3.heap.size:=sq ba.size;have Cv:w.heap.size+1 < w3.heap.size:=sq ba.size;have Cw:w.heap.size+1+1 < w3.heap.size:=sq ba.size;have Cx:w1.heap.size < w3.heap.size:=sq ba.size;have Cy:w2.heap.size < w3.heap.size:=sq ba.size;have mj:Hid (ai w3 (w.heap.size+1+1+1) x [.slice dG x.aa.length bV,.slice dS x.O.length dJ,.int .i64 x.next,.int .i64 x.weights.pack,.int .i64 x.weights.spread,.int .i64 x.weights.soft] G1):=I (((((jX.mono S').alloc _).ext ap).alloc _).ext ba);clear jX bA hRM;go_wp2_with fail
 try dsimp only
 iterate 60 (first | go_step | skip)
 refine bodyPost_ret (v:=.tuple #[.agg #[.slice dG x.aa.length bV,.slice dS x.O.length dJ,.int .i64 x.next,.int .i64 x.weights.pack,.int .i64 x.weights.spread,.int .i64 x.weights.soft],.int .i64 1]) (by simp [results,Tryz.results160,go_sem, *]) rfl ?_
 exact K5):P:=h
theorem K6 {P:Prop} (h:P:=by
 have cA:(fL k (d7 x n) x.O).length = x.O.length+1:=by rw [CD]
 obtain ⟨A9,c9,F9,hv9,SY,hF9⟩:=ai.SM (xs:=fL k (d7 x n) x.O) SN (mm.out.keep (λy hy=>pD.out y (kp.out y hy).1) J) (λq hq hm=>by have:=(mn.out.lt q hq).1;have:=(kp.out q hm).1;omega);rw [cA] at hv9 SY;simp only [Value.slice.injEq,true_and] at hv9;obtain ⟨rfl,rfl⟩:=hv9
 have zB:=I (ai.SP (wy.out.keep (λy hy=>pD.out y (by have:=pE.out y hy;omega)) J) SY (λy hm hy=>by
  rcases hF9 y hy with h9 | h9
  ·exact (kp.out y h9).2.2 hm
  ·have:=(mn.out.lt y h9).1;have:=pE.out y hm;omega) (show aR (x.next+1) by unfold aR;omega) iV gI iW)
 have pG:=I (show ∀y∈Gh++F9,y≠w1.heap.size from λy hy=>by
  rcases List.mem_append.1 hy with hy | hy
  ·have:=pE.out y hy;omega
  ·rcases hF9 y hy with h9 | h9
   ·exact (kp.out y h9).2.1
   ·have:=(mn.out.lt y h9).1;omega)
 have XA:=wA.out;clear SY hF9;try dsimp only
 iterate 90 (first | go_step | skip)
 refine bodyPost_ret (v:=.tuple #[.agg #[.slice dG x.aa.length bV,.slice (some ⟨g8,0,none⟩) (x.O.length+1) p8,.int .i64 (x.next+1),.int .i64 x.weights.pack,.int .i64 x.weights.spread,.int .i64 x.weights.soft],.int .i64 0]) (by simp [results,Tryz.results159,go_sem, *]) rfl ?_;rw [HF.out,<- wB.out];first | refine ⟨[.slice dG x.aa.length bV,.slice (some ⟨g8,0,none⟩) (x.O.length+1) p8,.int .i64 (x.next+1),.int .i64 x.weights.pack,.int .i64 x.weights.spread,.int .i64 x.weights.soft],Gh++F9,rfl,?_,?_⟩ | refine ⟨[.slice dG x.aa.length bV,.slice (some ⟨g8,0,none⟩) (x.O.length+1) p8,.int .i64 (x.next+1),.int .i64 x.weights.pack,.int .i64 x.weights.spread,.int .i64 x.weights.soft],rfl,⟨Gh++F9,?_⟩,?_⟩
 ·exact wC
 ·exact sl):P:=h
theorem K7 {P:Prop} (h:P:=by
 have HF:=I (show setW x u = (x,1) by unfold setW;rw [hc,fS];simp);have HC:=I hc;have Du:=I fS;clear hc fS;go_enter Tryz.func112,Tryz.ntmps112;go_wp2_with fail
 refine (BO x _ _ _ (aZ h cc) HW.out).mono ?_;rintro e w1 ⟨mi,G1,rfl,jX,bi⟩;have dk:=jX.rd;obtain ⟨dG,bV,xq,dS,dJ,Bz,aq,hG1,oO,tq,wI,iV,gI,iW⟩:=aO dk;subst aq;clear hG1 dk;obtain ⟨cO,eO⟩:=ay bi;have VQ:w.heap.size < w1.heap.size:=sq bi.size;have mC:w.heap.size+1 < w1.heap.size:=sq bi.size;have akV:w.heap.size+1+1 < w1.heap.size:=sq bi.size;have fm:=jX.lt;go_wp2_with fail
 refine (qM x _ _ _ (aZ h cc) HW.out).mono ?_;rw [HC.out];rintro e w2 ⟨rfl,ap⟩;obtain ⟨bX,cE⟩:=ay ap;have VR:w.heap.size < w2.heap.size:=sq ap.size;have mD:w.heap.size+1 < w2.heap.size:=sq ap.size;have aoy:w.heap.size+1+1 < w2.heap.size:=sq ap.size;have VT:w1.heap.size < w2.heap.size:=sq ap.size;have bA:ai w2 (w.heap.size+1+1+1) x [.slice dG x.aa.length bV,.slice dS x.O.length dJ,.int .i64 x.next,.int .i64 x.weights.pack,.int .i64 x.weights.spread,.int .i64 x.weights.soft] G1:=((jX.mono S').alloc _).ext ap
 exact K8):P:=h
theorem mE {P:Prop} (h:P:=by
 have hl7:yR.length = 7:=bd.len kG;have h2:List.take 7 (yR++don) = yR:=by rw [List.take_append_of_le_length J,List.take_of_length_le J]
 have h3:=congrArg (List.take 7) hdc;rw [h2] at h3;rw [<- h3] at kG
 exact kG):P:=h
theorem K9 {P:Prop} (h:P:=by
 rintro e w1 ⟨ds,G,rfl,hO,bi⟩;have hR:=hO.rd;obtain ⟨kM,kN,ND,ny,nC,TD,aq,hGr,NG,TF,TG,xI,uD,xJ⟩:=aO hR;subst aq;clear hGr hR;have cG:=bi.size;simp at cG;have XB:oG w1 (w.heap.size+1+1) [.slice none 0 0,.slice none 0 0,.int .i64 0,.int .i64 0,.int .i64 0,.int .i64 0]:=oG.ext (oG.zA w _ _ [.slice none 0 0,.slice none 0 0,.int .i64 0,.int .i64 0,.int .i64 0,.int .i64 0] 29) bi;have HO:=I (hO.mono (B':=w.heap.size+1+1+1) S');have ap:Below w.heap.size w w1:=ah cc bi;clear hO bi h;try dsimp only
 iterate 8 go_step
 refine mA 29 _ _ rfl (w.heap.size+1+1) 0 [.slice kM R.aa.length kN,.slice ny R.O.length nC,.int .i64 R.next,.int .i64 R.weights.pack,.int .i64 R.weights.spread,.int .i64 R.weights.soft] [.slice none 0 0,.slice none 0 0,.int .i64 0,.int .i64 0,.int .i64 0,.int .i64 0] rfl rfl XB S' U' dv ?_;intro w2 YB OB;replace YB:oG w2 (w.heap.size+1+1) [.slice kM R.aa.length kN,.slice ny R.O.length nC,.int .i64 R.next,.int .i64 R.weights.pack,.int .i64 R.weights.spread,.int .i64 R.weights.soft]:=YB;try dsimp only [Act.put]
 go_wp2;refine bodyPost_ret (v:=.tuple #[.agg #[.slice kM R.aa.length kN,.slice ny R.O.length nC,.int .i64 R.next,.int .i64 R.weights.pack,.int .i64 R.weights.spread,.int .i64 R.weights.soft],.int .i64 cd]) (B9 Tryz.results107 _ (w.heap.size+1+1) [.slice kM R.aa.length kN,.slice ny R.O.length nC,.int .i64 R.next,.int .i64 R.weights.pack,.int .i64 R.weights.spread,.int .i64 R.weights.soft] _ _ rfl rfl YB Tryz.underlying29 rfl U') rfl ?_
 exact Kr):P:=h
theorem K' {P:Prop} (h:P:=by
 have cA:(fL k n x.aa).length = x.aa.length+1:=by rw [CD]
 obtain ⟨A9,c9,F9,hv9,SY,hF9⟩:=ai.SM (xs:=fL k n x.aa) SN (mm.out.keep (λy hy=>pD.out y (kp.out y hy).1) J) (λq hq hm=>by have:=(mn.out.lt q hq).1;have:=(kp.out q hm).1;omega);rw [cA] at hv9 SY;simp only [Value.slice.injEq,true_and] at hv9;obtain ⟨rfl,rfl⟩:=hv9
 have zB:=I (ai.SP SY (wy.out.keep (λy hy=>pD.out y (by have:=nW.out y hy;omega)) J) (λy hy=>by
  rcases hF9 y hy with h9 | h9
  ·exact (kp.out y h9).2.2
  ·have:=(mn.out.lt y h9).1;exact λhm=>by have:=nW.out y hm;omega) wI iV gI iW)
 have pG:=I (show ∀y∈F9++Gp,y≠w1.heap.size from λy hy=>by
  rcases List.mem_append.1 hy with hy | hy
  ·rcases hF9 y hy with h9 | h9
   ·exact (kp.out y h9).2.1
   ·have:=(mn.out.lt y h9).1;omega
  ·have:=nW.out y hy;omega)
 have XA:=wA.out;clear SY hF9;try dsimp only
 iterate 60 (first | go_step | skip)
 refine bodyPost_ret (v:=.tuple #[.agg #[.slice (some ⟨g8,0,none⟩) (x.aa.length+1) p8,.slice dS x.O.length dJ,.int .i64 x.next,.int .i64 x.weights.pack,.int .i64 x.weights.spread,.int .i64 x.weights.soft],.int .i64 0]) (by simp [results,Tryz.results160,go_sem, *]) rfl ?_;rw [HF.out,<- wB.out];refine ⟨[.slice (some ⟨g8,0,none⟩) (x.aa.length+1) p8,.slice dS x.O.length dJ,.int .i64 x.next,.int .i64 x.weights.pack,.int .i64 x.weights.spread,.int .i64 x.weights.soft],F9++Gp,rfl,?_,?_⟩
 ·exact wC
 ·exact sl):P:=h
theorem wD {P:Prop} (h:P:=by
 refine aN ?_;intro wn hn;replace hn:=hn.out;go_wp2;refine ⟨⟨s1++[z],s2,jj+1,I If,N',I awS,I (λz' hz=>?_),ah bL hn⟩,by simp [intOf];omega⟩;rcases List.mem_append.1 hz with hz | hz
 ·exact HN.out z' hz
 ·rw [List.mem_singleton.1 hz];exact HL.out):P:=h
theorem VA {P:Prop} (h:P:=by
 exact K3):P:=h
theorem wJ {P:Prop} (h:P:=by
 rw [HF.out]
 first
  | refine ⟨[.slice dG x.aa.length bV,.slice dS x.O.length dJ,.int .i64 x.next,.int .i64 x.weights.pack,.int .i64 x.weights.spread,.int .i64 x.weights.soft],G1,rfl,?_,?_⟩
  | refine ⟨[.slice dG x.aa.length bV,.slice dS x.O.length dJ,.int .i64 x.next,.int .i64 x.weights.pack,.int .i64 x.weights.spread,.int .i64 x.weights.soft],rfl,⟨G1,?_⟩,?_⟩
 ·try dsimp only
  refine ai.mono (B:=w.heap.size+1+1) ?_ J;have hO:=HO.out;exact aGR
 ·have hB:=HB.out
  exact aGS):P:=h
theorem VB {P:Prop} (h:P:=by
 refine aN ?_;intro wn hn;replace hn:=hn.out;obtain ⟨km,ly⟩:=ay hn;have kn:w.heap.size < wn.heap.size:=sq hn.size;have ra:b' < wn.heap.size:=sq hn.size;try (have sc:wr.heap.size < wn.heap.size:=sq hn.size)
 have zq:=((ar.alloc (.cells #[.string x.O[j+1].aS.name,.slice fC x.O[j+1].aS.labels.length fD,.int .i64 x.O[j+1].aS.aw,.int .i64 x.O[j+1].aS.mem,.int .i64 x.O[j+1].aS.av,.slice gB x.O[j+1].aS.af.length gG,.slice bT x.O[j+1].aS.ae.length bU,.string x.O[j+1].on,.int .i64 x.O[j+1].seq] 48)).kept (grown_of hn) S')
 go_wp2_with (at_mapUpdate
              refine wpList_mapUpdate_own _ J' _ _ _ 123 J' 3 4 Oy Tryz.underlying123 _ wp.heap.size _ _ J' zq jp _ _ _ J' J' (Maps.keyOf_int_mk Tryz.underlying3 (WalkArith.wf_i64 Ue)) _ [] (plainElem_bool Tryz.underlying4 true) ?_
              intro w5 aM JJ)
 exact ⟨⟨j+1+1,J,N',HN.out,Gn.out,au2,(Below.grown (ah (ak U3 _) hn) JJ au3 (λk hk=>by cases hk;exact Nat.le_refl _))⟩,by simp [intOf];omega⟩):P:=h
theorem wK {P:Prop} (h:P:=by
 go_enter Tryz.func20,Tryz.ntmps20;go_wp2_with fail
 rw [sn.out]
 go_wp2_with (first
  | (go_at_call 52;refine (kH x.next 1 1000000000 _).mono ?_;rw [Jf.out];rintro e w1 ⟨rfl,hZ⟩;simp only [<- hZ];clear hZ w1)
  | (go_at_call 53;refine (pW x.weights.pack x.weights.spread x.weights.soft _).mono ?_;rw [Du.out];rintro e w2 ⟨rfl,ap⟩;obtain ⟨bX,cE⟩:=ay ap;have cr:w.heap.size < w2.heap.size:=(sq ap.size)))
 go_ret
 exact ⟨by rw [HF.out];rfl,bc⟩):P:=h
theorem wN {P:Prop} (h:P:=by
 go_enter Tryz.func28,Tryz.ntmps28;go_wp2_with fail
 rw [sn.out]
 go_wp2_with (first
  | (go_at_call 68;refine (jc x.next 1 1000000000 _).mono ?_;rw [Jf.out];rintro e w1 ⟨rfl,hZ⟩;simp only [<- hZ];clear hZ w1)
  | (go_at_call 69;refine (pU x.weights.pack x.weights.spread x.weights.soft _).mono ?_;rw [Du.out];rintro e w2 ⟨rfl,ap⟩;obtain ⟨bX,cE⟩:=ay ap;have cr:w.heap.size < w2.heap.size:=(sq ap.size)))
 go_ret
 exact ⟨by rw [HF.out];rfl,bc⟩):P:=h
theorem VC {P:Prop} (h:P:=by
 refine aN ?_;intro wn hn;replace hn:=hn.out;obtain ⟨km,ly⟩:=ay hn;have kn:w.heap.size < wn.heap.size:=sq hn.size;have ra:b < wn.heap.size:=sq hn.size;try (have sc:wr.heap.size < wn.heap.size:=sq hn.size)
 have zq:=((ar.alloc (.cells #[.string x.O[0].aS.name,.slice fC x.O[0].aS.labels.length fD,.int .i64 x.O[0].aS.aw,.int .i64 x.O[0].aS.mem,.int .i64 x.O[0].aS.av,.slice gB x.O[0].aS.af.length gG,.slice bT x.O[0].aS.ae.length bU,.string x.O[0].on,.int .i64 x.O[0].seq] 48)).kept (grown_of hn) S')
 go_wp2_with (at_mapUpdate
              refine wpList_mapUpdate_own _ J' _ _ _ 123 J' 3 4 Oy Tryz.underlying123 _ wp.heap.size _ _ J' zq jp _ _ _ J' J' (Maps.keyOf_int_mk Tryz.underlying3 (WalkArith.wf_i64 Ue)) _ [] (plainElem_bool Tryz.underlying4 true) ?_
              intro w5 aM JJ)
 exact ⟨⟨0+1,J,N',HN.out,Gn.out,au2,(Below.grown (ah (ak U3 _) hn) JJ au3 (λk hk=>by cases hk;exact Nat.le_refl _))⟩,by simp [intOf];omega⟩):P:=h
theorem wT {P:Prop} (h:P:=by
 rw [HF.out]
 first
  | refine ⟨[.slice dG x.aa.length bV,.slice dS x.O.length dJ,.int .i64 x.next,.int .i64 x.weights.pack,.int .i64 x.weights.spread,.int .i64 x.weights.soft],G1,rfl,?_,?_⟩
  | refine ⟨[.slice dG x.aa.length bV,.slice dS x.O.length dJ,.int .i64 x.next,.int .i64 x.weights.pack,.int .i64 x.weights.spread,.int .i64 x.weights.soft],rfl,⟨G1,?_⟩,?_⟩
 ·try dsimp only
  refine ai.mono (B:=w.heap.size+1+1) ?_ J;exact aus
 ·exact sl):P:=h
theorem Lb {P:Prop} (h:P:=by
 try dsimp only [Act.put]
 iterate 5 go_step
 refine mA 29 _ _ rfl (w.heap.size+1+1) 0 [.slice kM R.aa.length kN,.slice ny R.O.length nC,.int .i64 R.next,.int .i64 R.weights.pack,.int .i64 R.weights.spread,.int .i64 R.weights.soft] [.slice none 0 0,.slice none 0 0,.int .i64 0,.int .i64 0,.int .i64 0,.int .i64 0] rfl rfl XB2 S' U' dv ?_;intro w3 ZB OZ;replace ZB:oG w3 (w.heap.size+1+1) [.slice kM R.aa.length kN,.slice ny R.O.length nC,.int .i64 R.next,.int .i64 R.weights.pack,.int .i64 R.weights.spread,.int .i64 R.weights.soft]:=ZB;try dsimp only [Act.put]
 go_wp2;refine bodyPost_ret (v:=.tuple #[.agg #[.slice kM R.aa.length kN,.slice ny R.O.length nC,.int .i64 R.next,.int .i64 R.weights.pack,.int .i64 R.weights.spread,.int .i64 R.weights.soft],.int .i64 cd]) (B9 Tryz.results66 _ (w.heap.size+1+1) [.slice kM R.aa.length kN,.slice ny R.O.length nC,.int .i64 R.next,.int .i64 R.weights.pack,.int .i64 R.weights.spread,.int .i64 R.weights.soft] _ _ rfl rfl ZB Tryz.underlying29 rfl U') rfl ?_
 exact ⟨[.slice kM R.aa.length kN,.slice ny R.O.length nC,.int .i64 R.next,.int .i64 R.weights.pack,.int .i64 R.weights.spread,.int .i64 R.weights.soft],G,rfl,(((HO.out.only OB (λb hb=>by have:=HGL.out b hb;omega))).only OZ (λb hb=>by have:=HO.out.base b hb;omega)).mono (B':=w.heap.size) J,SQ (SQ HB.out OB J) OZ J⟩):P:=h
theorem wV {P:Prop} (h:P:=by
 intro wq hq;have cN:=(aB hq).1;have lJ:=(aB hq).2;go_simp
 first
  | exact ⟨hq,rfl⟩
  | exact ⟨aQ hq _,rfl⟩
  | (first | (refine (SR.out _ uR).mono ?_;rintro e w2 ⟨rfl,ap⟩;exact ⟨rfl,aI hq ap⟩) | (refine (nx.out _ uR).mono ?_;rintro e w2 ⟨rfl,ap⟩;exact ⟨rfl,aI hq ap⟩))
  | (simp only [↓IntWalk.iteOmega];exact ⟨hq,rfl⟩)):P:=h
theorem CE {P:Prop} (h:P:=by
 intro wq hq;have cN:=(aB hq).1;have lJ:=(aB hq).2;go_simp
 first
  | exact ⟨hq,rfl⟩
  | (refine (Kq x p _ _ _ _ z _ (aJ HHX.out (ah re.out hq)) (aJ HHP.out (ah re.out hq)) HW.out Uc.out).mono ?_;rintro e wz ⟨rfl,dd⟩;rw [Lc.out];exact ⟨rfl,aI hq dd⟩)
  | (simp only [↓IntWalk.iteOmega];exact ⟨hq,rfl⟩)):P:=h
theorem Lf {P:Prop} (h:P:=by
 have HF:=I (show oH nm x p = 3 by rw [uS.out,if_neg (by simp [hS]),if_neg hu,if_pos eO]);have HS:=I hS;clear hS;have H1:=I he1;clear he1;go_wp2_with fail
 refine (Sy.out _ bc).mono ?_;rw [HS.out];rintro e w4 ⟨rfl,bC⟩;obtain ⟨ej,hf4⟩:=ay bC;have Wy:w.heap.size < w4.heap.size:=(sq bC.size);have vQ:w.heap.size+1 < w4.heap.size:=(sq bC.size);have Vt:w3.heap.size < w4.heap.size:=(sq bC.size);go_wp2_with fail
 refine (Sz.out _ bc).mono ?_;rintro e w5 ⟨rfl,bj⟩;obtain ⟨j7,kD⟩:=ay bj;have Es:w.heap.size < w5.heap.size:=(sq bj.size);have IV:w.heap.size+1 < w5.heap.size:=(sq bj.size);have iL:w3.heap.size < w5.heap.size:=(sq bj.size);go_wp2_with fail
 refine (oQ a p.aw _ ha kQ).mono ?_;rw [H1.out];rintro e w6 ⟨rfl,dx⟩;obtain ⟨Sp,Xe⟩:=ay dx;have uQ:w.heap.size < w6.heap.size:=(sq dx.size);have hy6:w.heap.size+1 < w6.heap.size:=(sq dx.size);have pC:w3.heap.size < w6.heap.size:=(sq dx.size)
 exact Cf):P:=h
theorem CF {P:Prop} (h:P:=by
 obtain ⟨u,b⟩:=R;rintro e w5 ⟨A6,c6,G6,rfl,iD,dx,Jg⟩;have j9:=I (fT.out.ext dx);have so:=I (lB.out.ext dx);have aDc:=I (Lg.out.ext dx);replace Jg:=I Jg;have uW:=I (mo.out.pH dx J);replace iD:=I (iD.mono (B':=w.heap.size) J);have VD:(k:Int)+1<=2:=by omega
 exact Li):P:=h
theorem Lj {P:Prop} (h:P:=by
 have eQ:∀y,y < wn.heap.size->w8.heap[y]? = wn.heap[y]?:=λy hy=>(cQ.block y J (λe=>by have:=(nK.lt y e.symm).1;omega)).trans (bx.block y hy);have CH:=cQ.size;obtain ⟨FI,hOI,hFI⟩:=CI.out.ins CK.out HDJ.out jj (by have:=cP.out;omega);have Lk:∀y∈FI,y < wn.heap.size:=λy hy=>by
  rcases hFI y hy with h9 | h9
  ·exact CI.out.lt y h9
  ·exact CK.out.lt y h9
 refine ⟨⟨k+1,N+1,g8,p8,_,FI,J,J,N',rfl,I ?_,I ?_,I (vP Le (B':=w.heap.size) j'.out.size),I ?_,I ?_,?_⟩,by simp [intOf];omega⟩
 ·rw [Jf.out,HI.out,CD,cP.out]
 ·intro j hj n9;exact Ln
 ·rw [Jf.out,HI.out];exact hOI.keep (λy hy=>eQ y (Lk y hy)) J
 ·exact λhm=>by have:=Lk g8 hm;omega
 ·exact Below.grown (j'.out.trans (bx.mono j'.out.size)) cQ (by have:=j'.out.size;omega) (λq hq=>by have:=(nK.lt q hq).1;have:=j'.out.size;omega)):P:=h
theorem Lo {P:Prop} (h:P:=by
 have rr:=HS.out.box.lt;go_wp2_with fail
 refine (VE x _ _ v2 (SJ HX.out HS.out.below) cU dm).mono ?_;rintro e w8 ⟨Vy,G8,rfl,sV,lA⟩;have T8:=HS.out.ext lA;have SY:=sV;obtain ⟨sj,aHA,aJp,aIQ,aIR,aCm,ayd,hF9,aye,aJq,aAR,aAS,aDQ,aCn⟩:=iy sV.rd;subst ayd;clear hF9 sV;obtain ⟨r0,r1,r2,r3,r4,r5⟩:=cw T8.rb;have rf:=T8.rb.fz;have rl:=T8.rb.lt;have mj:=I SY;have H9:=I T8;have Vz:w.heap.size+1 < v2.heap.size:=HS.out.rb.lt;clear SY T8 lA;go_wp2_with fail
 try dsimp only
 iterate 60 (first | go_step | skip)
 refine bodyPost_ret (v:=.tuple #[.agg #[.string x.name,.slice sj x.labels.length aHA,.int .i64 x.aw,.int .i64 x.mem,.int .i64 x.slots,.slice aIQ x.aT.length aIR],.bool false]) (by simp [results,Tryz.results188,go_sem, *]) rfl ⟨[.string x.name,.slice sj x.labels.length aHA,.int .i64 x.aw,.int .i64 x.mem,.int .i64 x.slots,.slice aIQ x.aT.length aIR],G8,by rw [o3.out];try rfl,?_,?_⟩
 ·rw [o3.out];refine ai.mono (B:=v2.heap.size) ?_ J;exact Ia
 ·exact SK):P:=h
theorem Lq {P:Prop} (h:P:=by
 intro wq hq;have cN:=(aB hq).1;have lJ:=(aB hq).2;go_simp
 first
  | exact ⟨hq,rfl⟩
  | exact ⟨aQ hq _,rfl⟩
  | ((simp only [outcome];first | (with_reducible refine Calls.mono (SU.out _ hq.out) ?_;rintro e wz ⟨rfl,dd⟩;exact ⟨rfl,aI hq dd⟩) | (with_reducible refine Calls.mono (VF.out _ hq.out) ?_;rintro e wz ⟨rfl,dd⟩;exact ⟨rfl,aI hq dd⟩)))
  | (simp only [↓IntWalk.iteOmega];exact ⟨hq,rfl⟩)):P:=h
theorem Lt {P:Prop} (h:P:=by
 rcases h0 with ⟨hl,⟨rfl,hn⟩ | ⟨g,cap,bp,rfl,hb,hh,eC,hm,bS,ht⟩⟩
 ·obtain rfl:xs = []:=List.eq_nil_of_length_eq_zero hn;exact ⟨none,0,[],rfl,⟨Sl.nil w none 0 (Nat.zero_le _),List.nodup_nil,(λb hb=>by cases hb),(λb hb=>by cases hb)⟩,(λb hb=>by cases hb)⟩
 ·have hg:g < w.heap.size:=by
   exact Lu
  refine ⟨_,cap,g :: F,rfl,⟨⟨_,cap,F,ds,rfl,eC,hm,h.rd,.inr ⟨g,0,rfl,rfl,hg,λj u hu=>?_⟩⟩,?_,?_,?_⟩,λy hy=>?_⟩
  ·rw [Nat.zero_add,cell_of_row w g j bp e (0,0) hh];exact CL
  ·rw [List.nodup_cons];exact ⟨bN g rfl,h.nodup⟩
  ·intro b d8;rcases List.mem_cons.1 d8 with rfl | d8
   ·exact hb
   ·exact h.base b d8
  ·exact Lv
  ·rcases List.mem_cons.1 hy with rfl | hy
   ·exact .inr rfl
   ·exact .inl hy):P:=h
theorem CM {P:Prop} (h:P:=by
 rw [HF.out]
 first
  | refine ⟨[.slice dG x.aa.length bV,.slice dS x.O.length dJ,.int .i64 x.next,.int .i64 x.weights.pack,.int .i64 x.weights.spread,.int .i64 x.weights.soft],G1,rfl,?_,?_⟩
  | refine ⟨[.slice dG x.aa.length bV,.slice dS x.O.length dJ,.int .i64 x.next,.int .i64 x.weights.pack,.int .i64 x.weights.spread,.int .i64 x.weights.soft],rfl,⟨G1,?_⟩,?_⟩
 ·try dsimp only
  refine ai.mono (B:=w.heap.size+1+1) ?_ J;have hO:=gM.out;exact aGV
 ·have hB:=VG.out
  exact aGW):P:=h
theorem Lw {P:Prop} (h:P:=by
 exact BE):P:=h
theorem CN {P:Prop} (h:P:=by
 simp only [Value.slice.injEq,true_and] at kF;obtain ⟨VJ,cK⟩:=kF;subst VJ cK;have gY:=I hO3;clear hO3;go_wp2_with fail
 refine ia.out.mono ?_;rw [nz.out];rintro e w4 ⟨rfl,bC⟩;have ka:=I bC;clear bC;go_wp2;go_ret2
 exact ⟨A2,c2,G3,by rw [HR.out];try rfl,by rw [HR.out];exact (gY.out.ext uZ.out).ext ka.out,rh.out.trans (ka.out.mono rh.out.size),λhh=>absurd hh Lx⟩):P:=h
theorem CP {P:Prop} (h:P:=by
 intro wq hq;have cN:=(aB hq).1;have lJ:=(aB hq).2;go_simp
 first
  | exact ⟨hq,rfl⟩
  | exact ⟨aQ hq _,rfl⟩
  | (first | (refine (zV _ _ J).mono ?_;rintro e wz ⟨rfl,nV⟩;exact ⟨rfl,aI hq nV⟩) | (refine (wE _ _ pB).mono ?_;rintro e wz ⟨rfl,nV⟩;exact ⟨rfl,aI hq nV⟩))
  | (simp only [↓IntWalk.iteOmega];exact ⟨hq,rfl⟩)):P:=h
theorem sr {P:Prop} (h:P:=by
 intro j u hu;rw [Addr.add];have hc:=cell_of_row (w.alloc (.cells cs.toArray e)) w.heap.size j cs.toArray e (0,0) (heap_alloc_new w _);split
 ·rename_i hj;subst hj;rw [hc];simpa using hu
 ·simp only [Nat.zero_add];rw [hc];simpa using hu):P:=h
theorem ss {P:Prop} (h:P:=by
 exact Below.grown (ah mq.out bx) cQ awR (λq hq=>by have:=(nK.lt q hq).1;have:=mq.out.size;omega)):P:=h
theorem Ly {P:Prop} (h:P:=by
 rw [nz.out];rintro e w4 ⟨rfl,bC⟩;have ka:=I bC;clear bC;go_wp2;go_ret2
 exact ⟨some ⟨g,0,none⟩,cap,G4,by rw [HR.out,cP.out];try rfl,by rw [HR.out];exact lB.out.ext ka.out,rh.out.trans (ka.out.mono rh.out.size),λ_=>mr.out.ext ka.out⟩):P:=h
theorem LA {P:Prop} (h:P:=by
 have cU:=gC.out;rw [HE.out] at cU;obtain ⟨Fb,Jl⟩:=aY.Ii (v':=.slice A7 (xs.length+1) c7) rN VK.out bN si.out J (λg hg=>by have:=(pI.out.lt g hg).2;omega) (λy hy=>by have:=bS.lt y hy;omega) IJ Ij;have CR:=(CS.out.grown IJ (λq hq=>by have:=(rN.lt q hq).1;have:=lE.out;omega)).setCell (p:=⟨w1.heap.size,5,none⟩) S' (.slice A7 (xs.length+1) c7);have mF:=xw (c:=w1.heap.size) (i:=5) (u:=.slice A7 (xs.length+1) c7) zl (λg hg=>by have:=(zl.lt g hg).1;omega)
 refine ⟨⟨j+1,k,xs++[⟨y1.1,y2.1,vs⟩],_,_,_,.slice A7 (xs.length+1) c7,N',J,by simp;omega,I cU,CU,Fb.setCell (p:=⟨w1.heap.size,5,none⟩) kI _,Jl,QZ.put 5 (.slice A7 (xs.length+1) c7),CR,by have:=IJ.size;simp only [World.setCell,Array.size_modify] at *;omega⟩,by simp [intOf];omega⟩):P:=h
theorem mH {P:Prop} (h:P:=by
 clear fZ hmul hz;go_wp2;go_returns
 exact ⟨by rw [HF.out,HG.out];unfold LB;first | rfl | simp,rfl⟩):P:=h
theorem LC {P:Prop} (h:P:=by
 exact K5):P:=h
theorem wY {P:Prop} (h:P:=by
 exact ⟨[.slice kM x.aa.length kN,.slice ny x.O.length nC,.int .i64 x.next,.int .i64 x.weights.pack,.int .i64 x.weights.spread,.int .i64 x.weights.soft],G,rfl,(HO.out.only OB (λb hb=>by have:=HO.out.base b hb;omega)).mono (B':=w.heap.size) J,SQ ap OB J⟩):P:=h
theorem mI {P:Prop} (h:P:=by
 clear hz;go_wp2
 all_goals
  go_returns
  exact ⟨by rw [HF.out,HG.out];rfl,bc⟩):P:=h
theorem LD {P:Prop} (h:P:=by
 have cU:=gC.out;obtain ⟨asv,asw⟩:=aY.Ii (v':=.slice A7 (ps.length+1) c7) Ik.out LF.out Il.out LI.out J (λg hg=>by have:=Y6.out g hg;omega) (λy hy=>fN.out y hy) CY asr;have r17:=xw (c:=w.heap.size+1+1) (i:=1) (u:=.slice A7 (ps.length+1) c7) LJ (λg hg=>by have:=(LJ.lt g hg).1;omega)
 refine ⟨⟨j+1,k,ps++[⟨y.1,nm,z.1⟩],_,_,z.2,.slice A7 (ps.length+1) c7,N',J,by simp;omega,I cU,(by rw [List.length_append];exact r17),asv.setCell (p:=⟨w.heap.size+1+1,1,none⟩) wZ _,asw,asu.setCell (p:=⟨w.heap.size+1+1,1,none⟩) wZ _,zC.put 1 (.slice A7 (ps.length+1) c7),by have:=CY.size;simp only [World.setCell,Array.size_modify] at *;omega⟩,by simp [intOf];omega⟩):P:=h
theorem LK {P:Prop} (h:P:=by
 rw [HK.out];rintro e w2 ⟨rfl,ap⟩;obtain ⟨bX,cE⟩:=ay ap;have cr:w.heap.size < w2.heap.size:=by have:=ap.size;simp at this;omega
 have lz:w2.cell? ⟨w.heap.size,1,none⟩ = some (.int .i64 x.op):=by rw [bX _ _ S',cell_of_row _ _ _ _ _ _ (heap_alloc_new w _)];rfl
 have me:w2.cell? ⟨w.heap.size,2,none⟩ = some (.slice jy x.values.length ji):=by rw [bX _ _ S',cell_of_row _ _ _ _ _ _ (heap_alloc_new w _)];rfl
 have eu:Below w.heap.size w w2:=bc;clear bX cE;have SV:((x.values.length:Int) == 0) = true:=by simp [H0.out]
 go_wp2;go_ret
 exact ⟨by rw [HF.out];first | rfl | simp_all,eu⟩):P:=h
theorem CZ {P:Prop} (h:P:=by
 refine ⟨⟨c1,c2,F1,F2,rfl,rfl,h1.rd,h2.rd⟩,?_,?_,?_⟩
 ·rw [List.nodup_append];exact ⟨h1.nodup,h2.nodup,λa ha b hb e=>hd a ha (e ▸ hb)⟩
 ·intro b hb;rcases List.mem_append.1 hb with hb | hb
  ·exact h1.base b hb
  ·exact h2.base b hb
 ·intro b hb;rcases List.mem_append.1 hb with hb | hb
  ·exact h1.plain b hb
  ·exact h2.plain b hb):P:=h
theorem mK {P:Prop} (h:P:=by
 clear fZ hand hmul hz
 exact C0):P:=h
theorem pL {P:Prop} (h:P:=by
 go_wp2_with fail
 refine xd.out.mono ?_;rw [HV.out];rintro e w2 ⟨rfl,ap⟩;go_wp2;go_returns
 exact ⟨by rw [HF.out];rfl,avE⟩):P:=h
theorem LL {P:Prop} (h:P:=by
 have cU:=gC.out;rw [HE.out] at cU;have CR:=(zD.out.grown IJ (λq hq=>by have:=(ev.lt q hq).1;have:=va.out;omega)).setCell (p:=⟨w1.heap.size,6,none⟩) S' (.slice A7 (ys.length+1) c7);have mF:=xw (c:=w1.heap.size) (i:=6) (u:=.slice A7 (ys.length+1) c7) zl (λg hg=>by have:=(zl.lt g hg).1;omega)
 refine ⟨⟨j+1,k,ys++[⟨y1.1,y2.1 == 1,y3.1,y4.1⟩],_,y4.2,.slice A7 (ys.length+1) c7,N',J,by simp;omega,I cU,CU,SX bS awU (Ov _ _ awV awW vQ),QZ.put 6 (.slice A7 (ys.length+1) c7),CR,by have:=IJ.size;simp only [World.setCell,Array.size_modify] at *;omega⟩,by simp [intOf];omega⟩):P:=h
theorem C1 {P:Prop} (h:P:=by
 simpa only [List.map_append,List.map_cons,List.map_nil,List.append_assoc,List.cons_append,List.nil_append] using this):P:=h
theorem LM {P:Prop} (h:P:=by
 intro wq hq;have cN:=(aB hq).1;have lJ:=(aB hq).2;go_simp
 first
  | exact ⟨hq,rfl⟩
  | exact ⟨aQ hq _,rfl⟩
  | ((refine (ZY a.aa[k] b.aa[k] _ _ _ _ _ (aJ hr hq.out) (aJ cJ hq.out) (HXH.out _ (List.getElem_mem ..)) (HYH.out _ (List.getElem_mem ..))).mono ?_;rw [HE.out];rintro e wz ⟨rfl,dd⟩;exact ⟨rfl,aI hq dd⟩))
  | (simp only [↓IntWalk.iteOmega];exact ⟨hq,rfl⟩)):P:=h
theorem LN {P:Prop} (h:P:=by
 go_wp2;refine bodyPost_ret (v:=.agg #[.string t1.1,.slice A2 L.1.length c2,.int .i64 c.1,.int .i64 m.1,.int .i64 o.1,.slice A6 xs.length c6]) (by simp [results,Tryz.results48,go_sem, *]) rfl ?_;rw [HF.out]
 first
  | refine ⟨[.string t1.1,.slice A2 L.1.length c2,.int .i64 c.1,.int .i64 m.1,.int .i64 o.1,.slice A6 xs.length c6],G2++G6,rfl,?_,?_,?_⟩
  | refine ⟨[.string t1.1,.slice A2 L.1.length c2,.int .i64 c.1,.int .i64 m.1,.int .i64 o.1,.slice A6 xs.length c6],rfl,⟨G2++G6,?_⟩,?_,?_⟩
 ·exact xe
 ·exact avA
 ·exact SZ):P:=h
theorem lH {P:Prop} (h:P:=by
 rw [<- h9]
 congr 1 <;> first | (push_cast;omega) | (push_cast;done) | (simp;done)):P:=h
theorem LO {P:Prop} (h:P:=by
 intro wq hq;have cN:=(aB hq).1;have lJ:=(aB hq).2;go_simp
 first
  | exact ⟨hq,rfl⟩
  | exact ⟨aQ hq _,rfl⟩
  | ((refine (TN y z _ _ _ _ wq (aJ C3.out (ah re.out hq)) (aJ HRZ.out (ah re.out hq)) HVY.out HVZ.out).mono ?_;rw [HL.out];rintro e wz ⟨rfl,dd⟩;exact ⟨rfl,aI hq dd⟩))
  | (simp only [↓IntWalk.iteOmega];exact ⟨hq,rfl⟩)):P:=h
theorem LP {P:Prop} (h:P:=by
 intro wq hq;have cN:=(aB hq).1;have lJ:=(aB hq).2;go_simp
 first
  | exact ⟨hq,rfl⟩
  | exact ⟨aQ hq _,rfl⟩
  | (first | (refine (zV x.name _ J).mono ?_;rintro e wz ⟨rfl,nV⟩;exact ⟨rfl,aI hq nV⟩) | (refine (Md x.labels _ _ _ _ (dO.ext (ah eu hq)) dq Zb.out).mono ?_;rintro e wz ⟨rfl,nV⟩;exact ⟨rfl,aI hq nV⟩) | (refine (wE _ _ pB).mono ?_;rintro e wz ⟨rfl,nV⟩;exact ⟨rfl,aI hq nV⟩))
  | (simp only [↓IntWalk.iteOmega];exact ⟨hq,rfl⟩)):P:=h
theorem LR {P:Prop} (h:P:=by
 intro wq hq;have cN:=(aB hq).1;have lJ:=(aB hq).2;go_simp
 first
  | exact ⟨hq,rfl⟩
  | exact ⟨aQ hq _,rfl⟩
  | (first | (refine (zW x.name _ J).mono ?_;rintro e wz ⟨rfl,nV⟩;exact ⟨rfl,aI hq nV⟩) | (refine (Mc x.labels _ _ _ _ (dO.ext (ah eu hq)) dq Zb.out).mono ?_;rintro e wz ⟨rfl,nV⟩;exact ⟨rfl,aI hq nV⟩) | (refine (uP _ _ pB).mono ?_;rintro e wz ⟨rfl,nV⟩;exact ⟨rfl,aI hq nV⟩))
  | (simp only [↓IntWalk.iteOmega];exact ⟨hq,rfl⟩)):P:=h
theorem LS {P:Prop} (h:P:=by
 refine bodyPost_ret (v:=.tuple #[.agg #[.slice none 0 0,.slice none 0 0,.int .i64 0,.int .i64 0,.int .i64 0,.int .i64 0],.bool false]) (by simp [results,Tryz.results9,go_sem, *]) rfl ?_;rw [HF.out];have QX:=HB.out
 first
  | refine ⟨[.slice none 0 0,.slice none 0 0,.int .i64 0,.int .i64 0,.int .i64 0,.int .i64 0],[],rfl,?_,?_⟩
  | refine ⟨[.slice none 0 0,.slice none 0 0,.int .i64 0,.int .i64 0,.int .i64 0,.int .i64 0],rfl,⟨[],?_⟩,?_⟩
 ·exact ai.ZW _ _
 ·exact auE):P:=h
theorem C4 {P:Prop} (h:P:=by
 exact Cf):P:=h
theorem LV {P:Prop} (h:P:=by
 intro wq hq;have cN:=(aB hq).1;have lJ:=(aB hq).2;go_simp
 first
  | exact ⟨hq,rfl⟩
  | exact ⟨aQ hq _,rfl⟩
  | ((refine (TN z y _ _ _ _ wq (aJ HRZ.out (ah re.out hq)) (aJ C3.out (ah re.out hq)) HVZ.out HVY.out).mono ?_;rw [HL.out];rintro e wz ⟨rfl,dd⟩;exact ⟨rfl,aI hq dd⟩))
  | (simp only [↓IntWalk.iteOmega];exact ⟨hq,rfl⟩)):P:=h
theorem pM {P:Prop} (h:P:=by
 go_wp2
 all_goals
  go_ret
  exact ⟨by first | rfl | simp_all,bc⟩):P:=h
theorem LX {P:Prop} (h:P:=by
 refine aN ?_;intro wn hn;replace hn:=hn.out;go_wp2
 ·rename_i bN;go_ret
  refine ⟨?_,ah C5 hn⟩;rw [HF.out,nP (k+1) avD HL.out];rfl
 ·exact LZ):P:=h
theorem L0 {P:Prop} (h:P:=by
 intro wq hq;have cN:=(aB hq).1;have lJ:=(aB hq).2;go_simp
 first
  | exact ⟨hq,rfl⟩
  | exact ⟨aQ hq _,rfl⟩
  | (first | (refine (zW _ _ J).mono ?_;rintro e wz ⟨rfl,nV⟩;exact ⟨rfl,aI hq nV⟩) | (refine (uP _ _ pB).mono ?_;rintro e wz ⟨rfl,nV⟩;exact ⟨rfl,aI hq nV⟩))
  | (simp only [↓IntWalk.iteOmega];exact ⟨hq,rfl⟩)):P:=h
theorem L4 {P:Prop} (h:P:=by
 intro wq hq;have cN:=(aB hq).1;have lJ:=(aB hq).2;go_simp
 first
  | exact ⟨hq,rfl⟩
  | exact ⟨aQ hq _,rfl⟩
  | ((refine (anf z y _ _ _ _ wq (VL sw.out Ta.out wq) (VL sw.out Tb.out wq)).mono ?_;rw [HL.out];rintro e wz ⟨rfl,dd⟩;exact ⟨rfl,aI hq dd⟩))
  | (simp only [↓IntWalk.iteOmega];exact ⟨hq,rfl⟩)):P:=h
theorem L5 {P:Prop} (h:P:=by
 intro wq hq;have cN:=(aB hq).1;have lJ:=(aB hq).2;go_simp
 first
  | exact ⟨hq,rfl⟩
  | exact ⟨aQ hq _,rfl⟩
  | ((refine (aiC z y _ _ _ _ wq (VM sw.out Ta.out wq) (VM sw.out Tb.out wq)).mono ?_;rw [HL.out];rintro e wz ⟨rfl,dd⟩;exact ⟨rfl,aI hq dd⟩))
  | (simp only [↓IntWalk.iteOmega];exact ⟨hq,rfl⟩)):P:=h
theorem L6 {P:Prop} (h:P:=by
 intro wq hq;have cN:=(aB hq).1;have lJ:=(aB hq).2;go_simp
 first
  | exact ⟨hq,rfl⟩
  | exact ⟨aQ hq _,rfl⟩
  | (refine (Oa x p _ _ _ _ x.aa[k].name _ (aJ h auT) (aJ h' auT) HW.out Uc.out).mono ?_;rw [Tc.out];rintro e w2 ⟨rfl,ap⟩;exact ⟨rfl,aI hq ap⟩)
  | (simp only [↓IntWalk.iteOmega];exact ⟨hq,rfl⟩)):P:=h
theorem L7 {P:Prop} (h:P:=by
 rw [Nat.zero_add,cell_of_row w g j bp e (0,0) hh]
 exact CL):P:=h
theorem L8 {P:Prop} (h:P:=by
 intro wq hq;have cN:=(aB hq).1;have lJ:=(aB hq).2;go_simp
 first
  | exact ⟨hq,rfl⟩
  | exact ⟨aQ hq _,rfl⟩
  | (refine aJb (v:=.bool (Aq z y)) ?_ hq;unfold Aq;repeat' split;all_goals simp [*])
  | (simp only [↓IntWalk.iteOmega];exact ⟨hq,rfl⟩)):P:=h
theorem L9 {P:Prop} (h:P:=by
 intro wq hq;have cN:=(aB hq).1;have lJ:=(aB hq).2;go_simp
 first
  | exact ⟨hq,rfl⟩
  | exact ⟨aQ hq _,rfl⟩
  | (refine aJb (v:=.bool (oP z y)) ?_ hq;unfold oP;repeat' split;all_goals simp [*])
  | (simp only [↓IntWalk.iteOmega];exact ⟨hq,rfl⟩)):P:=h
theorem C6 {P:Prop} (h:P:=by
 simp only [Value.slice.injEq,true_and] at kF;obtain ⟨VJ,cK⟩:=kF;subst VJ cK;have HO:=I hO3;clear hO3 ar de ri;go_wp2;go_ret2
 exact ⟨A2,c2,G3,by rw [HR.out];try rfl,by rw [HR.out];exact HO.out,ap,λhh=>absurd hh Lx⟩):P:=h
theorem xf {P:Prop} (h:P:=by
 rw [Jf.out,HI.out,List.length_append,List.length_cons,HJ.out];have:=gN.out;omega):P:=h
theorem L' {P:Prop} (h:P:=by
 intro wq hq;have cN:=(aB hq).1;have lJ:=(aB hq).2;go_simp
 first
  | exact ⟨hq,rfl⟩
  | exact ⟨aQ hq _,rfl⟩
  | (first | (refine (HUT.out _ (ah eu hq)).mono ?_;rintro e w3 ⟨rfl,ba⟩;exact ⟨rfl,aI hq ba⟩) | (refine (acy _ _ J J).mono ?_;rw [HM.out];rintro e w3 ⟨rfl,rfl⟩;exact ⟨rfl,hq⟩))
  | (simp only [↓IntWalk.iteOmega];exact ⟨hq,rfl⟩)):P:=h
theorem Ma {P:Prop} (h:P:=by
 refine ai.up (B':=w1.heap.size+1) (λx:az=>(x.name,x.labels,x.aw,x.mem,x.slots,x.aT)) ?_ (Nat.le_refl _);refine ai.cons (c1:=[.string t1.1]) (rdStr _ t1.1 J) ?_;refine ai.pair (B2:=B3) (c1:=[.slice A2 L.1.length c2]) (F1:=G2) hO ?_ J Iw;refine ai.cons (c1:=[.int .i64 c.1]) (jL _ c.1 ee) ?_;refine ai.cons (c1:=[.int .i64 m.1]) (jL _ m.1 Mb) ?_;refine ai.cons (c1:=[.int .i64 o.1]) (jL _ o.1 Me) ?_
 exact hOT):P:=h
theorem Mf {P:Prop} (h:P:=by
 refine ⟨0,[],[],Nat.zero_le _,rfl,?_,⟨rfl,rfl⟩,?_,ak (ak (aj _) _) _⟩
 ·have:=World.ownsRow_made (base:=w.heap.size+1) (e:=46) (size:=7) (w.alloc (.cells #[.slice bG x.aa.length bD,.slice dn x.O.length bW,.int .i64 x.next,.int .i64 x.weights.pack,.int .i64 x.weights.spread,.int .i64 x.weights.soft] 29)) #[] 0 S' jp rfl;simpa [F7] using this
 ·exact C7):P:=h
theorem xi {P:Prop} (h:P:=by
 intro l hl;rcases List.mem_append.1 hl with hl | hl
 ·exact Eo.out l hl
 ·simp only [List.mem_singleton] at hl;subst hl
  exact ⟨sx,vb⟩):P:=h
theorem Mg {P:Prop} (h:P:=by
 have HF:=I (agS am hb);clear hb;rcases hr with hr | ⟨hr,fb⟩ | ⟨hr,fb⟩ | ⟨hr,fb⟩ | ⟨hr,fb⟩ | hr
 all_goals
  have bN:((s[k].toNat:Int) != 45) = true:=(by simp;omega);have xj:((s[k].toNat:Int) == 45) = false:=(by simp;omega);go_wp2
  all_goals first
   | (go_ret;exact ⟨by rw [HF.out];rfl,bc⟩)
   | (exfalso;rename_i hx;simp at hx;omega)):P:=h
theorem Mh {P:Prop} (h:P:=by
 intro wq hq;have cN:=(aB hq).1;have lJ:=(aB hq).2;go_simp
 first
  | exact ⟨hq,rfl⟩
  | (refine (ajp y r _).mono ?_;rw [HL.out];rintro e wz ⟨rfl,dd⟩;exact ⟨rfl,aI hq dd⟩)
  | (simp only [↓IntWalk.iteOmega];exact ⟨hq,rfl⟩)):P:=h
theorem Mi {P:Prop} (h:P:=by
 go_simp
 first
  | exact ⟨hq,rfl⟩
  | exact ⟨aQ hq _,rfl⟩
  | (first | (refine (gQ x _ _ p.on _ (aJ h (ah bc hq)) hl).mono ?_;rintro e wz ⟨rfl,nV⟩;exact ⟨rfl,aI hq nV⟩) | ((try rw [VN]);(try rw [C8]);refine (uP _ _ pB).mono ?_;rintro e wz ⟨rfl,nV⟩;exact ⟨rfl,aI hq nV⟩))
  | (simp only [↓IntWalk.iteOmega];exact ⟨hq,rfl⟩)):P:=h
theorem Mj {P:Prop} (h:P:=by
 exact ((((((((((((((U3.out.new (Nat.le_refl _) 0 _).new (Nat.le_refl _) 1 _).new (Nat.le_refl _) 2 _).new (Nat.le_refl _) 3 _).new (Nat.le_refl _) 4 _).new (Nat.le_refl _) 5 _).new (Nat.le_refl _) 6 _).new (Nat.le_refl _) 7 _).new (Nat.le_refl _) 8 _).new (Nat.le_refl _) 9 _).new (Nat.le_refl _) 10 _).new (Nat.le_refl _) 11 _).new (Nat.le_refl _) 12 _).new (Nat.le_refl _) 13 _)):P:=h
theorem Mk {P:Prop} (h:P:=by
 unfold Ld;rw [List.take_length,vc];unfold TQ Bh;rw [List.take_length,rj,vc];have e:∀n:aE,dB (YZ n) = ST n.key++(VT n.op++(VT n.values.length++n.values.flatMap ST)):=λn=>by
  unfold YZ MI;rw [List.take_length,vc];unfold MJ;simp only [rj,List.append_assoc];rfl
 simp only [e];unfold RF UE;simp only [rj,List.append_assoc]
 rfl):P:=h
theorem Ml {P:Prop} (h:P:=by
 have HK:=I bs;clear bs;go_wp2;go_ret
 have h1:=Heq.out;rw [HK.out,List.take_length,HL.out,List.take_length] at h1
 exact ⟨by rw [HF.out,h1];rfl,C5⟩):P:=h
theorem Mm {P:Prop} (h:P:=by
 go_wp2
 exact ⟨⟨k+1,N,g,cap,J,J,N',rfl,I aHa,by rw [Jf.out,HI.out];exact mG gO.out (ah bL hn),ah e9.out (ah bL hn)⟩,by simp [intOf];omega⟩):P:=h
theorem Mn {P:Prop} (h:P:=by
 exact Lu):P:=h
theorem Mo {P:Prop} (h:P:=by
 intro wq hq;have cN:=(aB hq).1;have lJ:=(aB hq).2;go_simp
 first
  | exact ⟨hq,rfl⟩
  | fail
  | (simp only [↓IntWalk.iteOmega];exact ⟨hq,rfl⟩)):P:=h
theorem Mp {P:Prop} (h:P:=by
 rcases List.mem_append.1 hz with hz | hz
 ·exact HIS.out z (by rw [HE.out];exact List.mem_append_left _ hz)
 ·rcases List.mem_cons.1 hz with rfl | hz
  ·exact am
  ·exact HIS.out z (by rw [HE.out];exact List.mem_append_right _ hz)):P:=h
theorem Mq {P:Prop} (h:P:=by
 refine ⟨by first | (rw [HF.out];done) | (rw [HF.out];rfl) | rfl | (simp only [HF.out];rfl),?_,?_⟩
 ·exact (by repeat (first | with_reducible exact HI3.out | with_reducible refine zk.br ?_ J _ _))
 ·exact (by repeat (first | with_reducible exact HU.out | with_reducible refine nN.xZ ?_ auQ _))):P:=h
theorem Mr {P:Prop} (h:P:=by
 refine ⟨0,Nat.zero_le _,rfl,?_,?_,?_,ak (ak (aj _) _) _⟩
 ·exact (World.ownsRow_made w #[] 0 (Nat.le_refl _) jp rfl).alloc _
 ·have:=World.ownsRow_made (base:=w.heap.size) (e:=3) (size:=1) (w.alloc (.cells #[] 3)) #[] 0 S' jp rfl;simpa [iv] using this
 ·right;simp [Value.ownBlock]):P:=h
theorem Ms {P:Prop} (h:P:=by
 go_wp2;go_ret
 exact ⟨_,rfl,hb.size,⟨⟨0,q,_,heap_alloc_new _ _,J,by unfold aR;omega⟩,λk hk=>(by
  obtain ⟨g,o,v,e,hg,hv,hJ⟩:=cL k hk
  exact ⟨g,o,v,e,Nat.lt_of_lt_of_le hg hb.size,((ak hb _).cell (p:=⟨g,o+k,none⟩) hg).trans hv,hJ⟩),hn⟩,ak hb _⟩):P:=h
theorem pN {P:Prop} (h:P:=by
 refine Or.inl ⟨rfl,λwq hq=>?_⟩;go_simp
 try rfl):P:=h
theorem C' {P:Prop} (h:P:=by
 refine ai.up (B':=B) (λx:rZ=>(x.pack,x.spread,x.soft)) ?_ (Nat.le_refl _)
 exact ai.cons (jL w p hp) (ai.cons (jL w q hq) (ai.flat (jL w f hf)))):P:=h
theorem sy {P:Prop} (h:P:=by
 rw [Bool.eq_iff_iff,decide_eq_true_eq,Wx,ByteArray.toList_eq,ByteArray.toList_eq]):P:=h
theorem Da {P:Prop} (h:P:=by
 have e:GX a b = none:=by unfold GX;rw [if_pos J]
 rw [e];go_enter Tryz.func195,Tryz.ntmps195;go_wp2;go_returns
 exact ⟨rfl,aj _⟩):P:=h
theorem Db {P:Prop} (h:P:=by
 have e:GX a b = none:=by unfold GX;rw [if_pos J]
 rw [e];go_enter Tryz.func172,Tryz.ntmps172;go_wp2;go_returns
 exact ⟨rfl,aj _⟩):P:=h
theorem Mt {P:Prop} (h:P:=by
 go_wp2
 all_goals
  go_ret
  refine ⟨?_,rfl⟩;refine congrArg (λb=>Ending.returned (Value.bool b)) ?_;show (_:Bool) = _;unfold GL;rw [Bool.eq_iff_iff];simp only [Bool.or_eq_true,Bool.and_eq_true,decide_eq_true_eq,Bool.false_eq_true,true_iff,false_iff]
  omega):P:=h
theorem VO {P:Prop} (h:P:=by
 refine aN ?_;intro wn wv;replace wv:=wv.out;have H2:=H.out.ext wv;have eO:=H2.fz 1;have sk:=H2.lt;have xm:=H2.c1;have Ib:=H2.c2;go_wp2;go_ret
 rw [HF.out]
 exact ⟨rfl,H2.at_ HI.out,(nN.lq [b] wv).setCell S' _⟩):P:=h
theorem pP {P:Prop} (h:P:=by
 rw [bX _ _ S',cell_of_row _ _ _ _ _ _ (heap_alloc_new w _)];rfl):P:=h
theorem sz {P:Prop} (h:P:=by
 rw [J5,<- ByteArray.toList_eq,<- ByteArray.toList_eq] at e
 simp [e] at h):P:=h
theorem sA {P:Prop} (h:P:=by
 simp only [Bool.and_eq_true,decide_eq_true_eq] at this
 exact ⟨J,J⟩):P:=h
theorem xo {P:Prop} (h:P:=by
 rintro (h1 | h1 | h1)
 ·exact .inr (.inl h1)
 ·exact .inl h1
 ·exact .inr (.inr h1)):P:=h
theorem Dd {P:Prop} (h:P:=by
 obtain ⟨g,o,v,e,hg,hc,hv⟩:=h3 k hk
 exact ⟨g,o,v,e,hg,(World.cell?_of_block (Below.heap_setCell _ _ _ _ bv)).trans hc,hv⟩):P:=h
theorem De {P:Prop} (h:P:=by
 rintro e w4 ⟨rfl,hw⟩;simp only [hw];clear hw w4;go_wp2;go_ret
 rw [HF.out]
 exact ⟨rfl,TR,ca.trans bJ⟩):P:=h
theorem xr {P:Prop} (h:P:=by
 go_wp2;go_ret
 exact ⟨by rw [HF.out];first | rfl | simp_all,ax⟩):P:=h
theorem sB {P:Prop} (h:P:=by
 go_wp2_with (fail)
 go_ret
 exact ⟨by rw [HF.out];rfl,bc⟩):P:=h
theorem xt {P:Prop} (h:P:=by
 exact ⟨⟨g,0,none⟩,by simp [hc],rfl,λq u hu=>by simp at hu⟩):P:=h
theorem pQ {P:Prop} (h:P:=by
 rw [List.length_eq_zero_iff.1 h0] at hu
 simp at hu):P:=h
theorem xu {P:Prop} (h:P:=by
 go_wp2;go_ret
 exact ⟨xs,A',c',G,rfl,gM.out,Du.out,fo.out,oa.out,rm.out⟩):P:=h
theorem Mu {P:Prop} (h:P:=by
 have h1:=hall e he hb;have h0:=(mem_ready.1 hr).1;rw [Te] at h1;rcases Nat.lt_or_ge i listed.size with h' | h'
 ·simp [h'] at h0 h1;rw [h0] at h1;cases h1
 ·simp [Array.getElem?_eq_none h'] at h1):P:=h
theorem Mv {P:Prop} (h:P:=by
 have bs:k = xs.length:=by omega
 have HK:=I bs;clear bs;go_wp2;go_ret
 have h1:=Heq.out;rw [HK.out,List.take_length,HL.out,List.take_length] at h1
 exact ⟨by rw [h1];rfl,ax⟩):P:=h
theorem Dg {P:Prop} (h:P:=by
 have bs:k = xs.length:=by omega
 subst bs;go_wp2;go_ret
 exact ⟨by rw [List.take_length];rfl,ax⟩):P:=h
theorem Mw {P:Prop} (h:P:=by
 have HS:=I (nP (k+1) Mx Tf.out);clear he;go_wp2_with (fail)
 go_ret
 exact ⟨by rw [VS.out,HS.out];rfl,bc⟩):P:=h
theorem VV {P:Prop} (h:P:=by
 rw [Jf.out,HI.out];have:=vP Le (B':=w2.heap.size) mq.out.size
 simpa only [List.flatMap_append,List.flatMap_cons,List.append_assoc,List.cons_append,List.nil_append,gm] using this):P:=h
theorem V7 {P:Prop} (h:P:=by
 rw [Jf.out,HI.out];have:=vP Le (B':=w2.heap.size) mq.out.size
 simpa only [List.flatMap_append,List.flatMap_cons,List.append_assoc,List.cons_append,List.nil_append,gh] using this):P:=h
theorem My {P:Prop} (h:P:=by
 exact ((((((((((((((e'.out.br am 0 _).br am 1 _).br am 2 _).br am 3 _).br am 4 _).br am 5 _).br am 6 _).br am 7 _).br am 8 _).br am 9 _).br am 10 _).br am 11 _).br am 12 _).br am 13 _)):P:=h
theorem xv {P:Prop} (h:P:=by
 subst bs;go_wp2;go_ret
 exact ⟨by rw [HF.out];rfl,ax⟩):P:=h
theorem V8 {P:Prop} (h:P:=by
 rw [Jf.out,HI.out];have:=vP Le (B':=w2.heap.size) mq.out.size
 simpa only [List.flatMap_append,List.flatMap_cons,List.append_assoc,List.cons_append,List.nil_append,gD] using this):P:=h
theorem Mz {P:Prop} (h:P:=by
 have h1:=Og xs (jD xs.length) hx xs.length (Nat.le_refl _);rw [List.take_length] at h1;have h2:=bM xs.length ⟨J,J⟩;have h3:xs.length * 2097172<=1048576 * 2097172:=Nat.mul_le_mul_right _ J;unfold Fe
 omega):P:=h
theorem MA {P:Prop} (h:P:=by
 have bs:k = xs.length:=by omega
 subst bs;have hf:GZ xs 0 = some s:=by rw [HS.out,List.drop_length];rfl
 have HF:=I hf;clear hf;go_wp2;go_returns
 exact ⟨by rw [HF.out];rfl,ax⟩):P:=h
theorem MD {P:Prop} (h:P:=by
 rw [Jf.out,<- HMAP.out,HE.out,List.map_append,List.map_append,List.map_cons,HKK.out]
 exact (PY _ _ (λz hz=>by obtain ⟨z0,cb,rfl⟩:=List.mem_map.1 hz;exact HN.out z0 cb) asT.out).symm):P:=h
theorem Di {P:Prop} (h:P:=by
 rcases Nat.lt_or_ge g w.heap.size with h5 | h5
 ·exact h5
 ·rw [Array.getElem?_eq_none h5] at h3;cases h3):P:=h
theorem Dj {P:Prop} (h:P:=by
 unfold Lib.compareInt;rw [Bool.eq_iff_iff,decide_eq_true_eq,decide_eq_true_eq];repeat' split
 all_goals omega):P:=h
theorem Dk {P:Prop} (h:P:=by
 rcases Nat.lt_or_ge b w.heap.size with am | iN
 ·exact am
 ·rw [Array.getElem?_eq_none iN] at h;cases h):P:=h
theorem ME {P:Prop} (h:P:=by
 rw [C3.out,HN.out];refine ai.mono (B:=w.heap.size+1+1+1) ?_ J
 exact (by repeat (first | with_reducible exact Tg.out | with_reducible refine ai.setCell ?_ bv _))):P:=h
theorem MG {P:Prop} (h:P:=by
 have h1:(iP s (dP s a).2).2 < 0:=by unfold iP;refine MP (λa ha=>Th ha) _ _ _ ?_;rw [MH (by decide) (EU h)];decide
 unfold iF;split
 ·exact h1
 ·show (-1:Int) < 0
  decide):P:=h
theorem MM {P:Prop} (h:P:=by
 intro v' w' mL hg _;refine h v' w' mL ⟨hg.os,hg.tape,hg.output,Nat.le_trans S' hg.size,λk hk bN=>?_⟩ avU;rw [hg.block k (by simp;omega) bN]
 exact Below.heap_alloc _ _ _ hk):P:=h
theorem MT {P:Prop} (h:P:=by
 rw [List.pairwise_append,List.pairwise_cons];refine ⟨h0.1,⟨hb,h0.2.1⟩,λa MU b d8=>?_⟩;rcases List.mem_cons.1 d8 with rfl | d8
 ·exact ha a MU
 ·exact h0.2.2 a MU b d8):P:=h
theorem sC {P:Prop} (h:P:=by
 simp only [Bool.and_eq_true,decide_eq_true_eq] at h
 omega):P:=h
theorem MW {P:Prop} (h:P:=by
 have MX:j = x.af[k].values.length:=by omega
 subst MX;go_wp2
 exact ⟨⟨k+1,J,N',by rw [Jf.out];rfl,akY,aoz,ah ax hbi⟩,by simp [intOf];omega⟩):P:=h
theorem M0 {P:Prop} (h:P:=by
 rcases hd with rfl | rfl
 ·rw [bt] at this;exact this
 ·cases k with
  | zero=>rw [bt] at this;exact this
  | succ k=>rw [bt,if_pos rfl] at this;exact this):P:=h
theorem sE {P:Prop} (h:P:=by
 go_wp2;go_ret
 exact ⟨by rw [HN.out];rfl,rfl⟩):P:=h
theorem Dm {P:Prop} (h:P:=by
 have h8:=pE.out y (Ie.out y h9)
 exact ⟨J,J,λhm=>V'.out y (Ie.out y h9) hm⟩):P:=h
theorem Dn {P:Prop} (h:P:=by
 have h8:=nW.out y (Ie.out y h9)
 exact ⟨J,J,λhm=>V'.out y hm (Ie.out y h9)⟩):P:=h
theorem Dr {P:Prop} (h:P:=by
 split
 ·rename_i h2;first | exact h2 | exact h2.2
 ·rename_i h2;rw [if_neg h2] at h;cases h):P:=h
theorem Ds {P:Prop} (h:P:=by
 go_enter Tryz.func178,Tryz.ntmps178;go_wp2;go_ret
 exact ⟨by rw [hs.out];rfl,aj _⟩):P:=h
theorem M1 {P:Prop} (h:P:=by
 obtain ⟨k,hk,rfl⟩:=List.getElem_of_mem hy
 exact Xl.o4 _ (by have:=rM (f:=ag.wt) hk;have e:ag.wt x.O[k] = nI.wt x.O[k].aS+x.O[k].on.size:=rfl;omega)):P:=h
theorem M2 {P:Prop} (h:P:=by
 refine ai.up (B':=B4+w.heap.size) (λx:rZ=>(x.pack,x.spread,x.soft)) ?_ (Nat.le_refl _)
 exact ai.cons (jL w p hp) (ai.cons (jL w q hq) (ai.flat (jL w f hf)))):P:=h
theorem Dy {P:Prop} (h:P:=by
 refine Or.inl ⟨rfl,λwq hq=>?_⟩;have cN:=(aB hq).1;go_simp
 try rfl):P:=h
theorem M3 {P:Prop} (h:P:=by
 have pS:k = 0∨k = 1∨k = 2∨k = 3∨k = 4∨k = 5:=by omega
 rcases pS with rfl | rfl | rfl | rfl | rfl | rfl <;> exact ⟨_,M4 _ _ _ _ _ rfl,by decide⟩):P:=h
theorem xy {P:Prop} (h:P:=by
 exact (bw.cell (p:=⟨g,q,none⟩) bv).trans (vd.out q u hu)):P:=h
theorem Dz {P:Prop} (h:P:=by
 have h2:=eq_of_beq h.2;cases a;cases b
 simp only at h0 h1 h2;subst h0 h1 h2
 rfl):P:=h
theorem DA {P:Prop} (h:P:=by
 go_wp2;go_ret
 exact ⟨by rw [HG.out];first | rfl | simp_all,ax⟩):P:=h
theorem Wa {P:Prop} (h:P:=by
 refine aN ?_;intro wn hn;replace hn:=hn.out;go_wp2;go_ret
 exact ⟨by rw [HS.out];rfl,ah ax hn⟩):P:=h
theorem DB {P:Prop} (h:P:=by
 go_enter Tryz.func158,Tryz.ntmps158;go_wp2;go_ret
 exact ⟨rfl,rfl⟩):P:=h
theorem M5 {P:Prop} (h:P:=by
 have hn:=Hn.out;rw [bs,List.take_length] at hn;have HI:=I (F5 hn);clear hn bs;go_wp2;go_ret
 exact ⟨by rw [HI.out];rfl,bc⟩):P:=h
theorem M6 {P:Prop} (h:P:=by
 go_wp2;go_ret
 rw [M7.out]
 first | exact ⟨Al,cl,Gl,rfl,HO.out,HI.out,HU.out⟩ | exact ⟨Al,cl,rfl,⟨Gl,HO.out⟩,HI.out,HU.out⟩):P:=h
theorem M8 {P:Prop} (h:P:=by
 split
 ·rename_i hw;rw [if_pos hw] at h;exact .inl (Oper.wp_mono next h)
 ·rename_i hw;rw [if_neg hw] at h
  exact next _ _ h):P:=h
theorem Wb {P:Prop} (h:P:=by
 refine aN ?_;intro wn hn;replace hn:=hn.out;go_wp2
 exact ⟨⟨k+1,Im,N',ah bL hn⟩,by simp [intOf];omega⟩):P:=h
theorem M9 {P:Prop} (h:P:=by
 have bs:k = x.O.length:=by omega
 subst bs;go_wp2;go_ret
 exact ⟨by rw [HF.out];rfl,alg⟩):P:=h
theorem sb {P:Prop} (h:P:=by
 simp only [List.map_cons,List.sum_cons];omega):P:=h
theorem Nd {P:Prop} (h:P:=by
 rintro e w2 ⟨rfl,hw⟩;rw [hw];clear hw w2;go_wp2;go_ret
 exact ⟨by rw [HF.out];rfl,aj _⟩):P:=h
theorem Nf {P:Prop} (h:P:=by
 rw [xK] at h;rcases MK h with h | h
 ·exact .inl h
 ·rw [List.mem_singleton.1 h];exact .inr (List.mem_cons_self ..)):P:=h
theorem DC {P:Prop} (h:P:=by
 go_wp2
 exact ⟨⟨k+1,J,N',Gn.out,bc⟩,by simp [intOf];omega⟩):P:=h
theorem DD {P:Prop} (h:P:=by
 go_wp2;go_returns
 exact ⟨by rw [HF.out,HG.out];rfl,aj _⟩):P:=h
theorem Ng {P:Prop} (h:P:=by
 refine ⟨⟨k+1,J,N',by rw [ae7 _ _ _ am];exact bJ,by rw [ae7 _ _ _ am];exact kF,Ni.symm,ba⟩,by simp [intOf];omega⟩):P:=h
theorem Nn {P:Prop} (h:P:=by
 clear hp;have HI:=I (Fj am Hn.out HP.out);go_wp2;go_ret
 exact ⟨by rw [HI.out];rfl,bc⟩):P:=h
theorem Nq {P:Prop} (h:P:=by
 obtain ⟨j,DE,rfl⟩:=List.getElem_of_mem hz;rw [List.getElem_take];rw [List.length_take] at DE
 exact hN j J J):P:=h
theorem DG {P:Prop} (h:P:=by
 simp only [List.map_nil,List.sum_nil,List.length_nil] at h hl;omega):P:=h
theorem Nr {P:Prop} (h:P:=by
 exact ai.oJ h ⟨de D hr,List.nodup_nil,(λb hb=>by cases hb),(λb hb=>by cases hb)⟩ (λg hg hm=>by cases hm)):P:=h
theorem Ns {P:Prop} (h:P:=by
 have h3:s.data.toList.length = 0:=by rw [<- ByteArray.toList_eq,h1];rfl
 rw [Array.length_toList] at h3
 exact h3):P:=h
theorem DH {P:Prop} (h:P:=by
 rw [h,if_neg J,hs,Int.toNat_natCast,List.getElem?_eq_getElem hk]):P:=h
theorem Nt {P:Prop} (h:P:=by
 rcases Nat.lt_or_ge g w.heap.size with am | iN
 ·exact am
 ·rw [Array.getElem?_eq_none iN] at h3;cases h3):P:=h
theorem Nu {P:Prop} (h:P:=by
 exact ai.pair h1 (ai.pair h2 h3 (Nat.le_refl _) (λb hb=>by cases hb)) (Nat.le_refl _) (λb hb=>by cases hb)):P:=h
theorem Nv {P:Prop} (h:P:=by
 cases j with
 | zero=>rwa [bF hj] at this
 | succ i=>rw [yS hj,Bool.and_eq_true] at this;exact this.1):P:=h
theorem Nw {P:Prop} (h:P:=by
 rcases h.2 with ⟨rfl,hn⟩ | ⟨g,cap,bp,rfl,_⟩
 ·subst hn;exact ⟨none,0,rfl⟩
 ·exact ⟨_,_,rfl⟩):P:=h
theorem Nx {P:Prop} (h:P:=by
 refine ⟨?_,?_,?_⟩
 ·show (0:Int)<=_;omega
 ·show (-1:Int)<=-1;omega
 ·show (-1:Int)<=_;omega):P:=h
theorem Ny {P:Prop} (h:P:=by
 intro HK;have bo:Below wn.heap.size wn wn.drew:=aA (aj _);refine aX 1 _ J' U' H' bo W' ?_;try simp only [Act.put,pz]
 refine aX 2 _ J' U' H' bo W' ?_;try simp only [Act.put,pz]
 refine aX 3 _ J' U' H' bo W' ?_;try simp only [Act.put,pz]
 refine aX 5 _ J' U' H' bo W' ?_;try simp only [Act.put,pz]
 refine aX 6 _ J' U' H' bo W' ?_;try simp only [Act.put,pz]
 refine aX 7 _ J' U' H' bo W' ?_;try simp only [Act.put,pz]
 refine aX 8 _ J' U' H' bo W' ?_;try simp only [Act.put,pz]
 refine D7 0 9 J' J' U' J' J' (λK hK=>?_) (λK hK=>?_)
 ·go_simp;refine hK _ _ (ak bo (.cells #[] 91)) ?_;try simp only [Act.put,pz]
  clear hK K;have Qz:=ak bo (.cells #[] 91);have KI:=D9 wn.drew 91 4 wn.heap.size rfl;refine D7 4 9 J' J' U' J' J' (λK hK=>?_) (λK hK=>?_)
  ·refine qQ sF _ _ J' (wn.drew.alloc (.cells #[] 91)) wn.heap.size _ 0 [] KI J' ⟨g,0,none⟩ jj cap ((s1.flatMap gh)) J' Wc (λq u hu=>(Qz.cell (p:=(⟨g,0,none⟩:Addr).add q) iG).trans (et.out q u hu)) (oc zE s1) J J fh ?_;intro v5 w5 aM cq fi;have bj:Below wn.heap.size wn w5:=Below.grown (Qz) cq fh (λq hq=>(KI.lt q hq).1);refine hK _ _ bj ?_;try simp only [Act.put,pz]
   clear hK K;refine bP 9 J' U' J' (λK hK=>?_);go_simp;refine hK _ _ (ak bj (.cells #[.string y.key,.bool y.equal,.string y.value,.int .i64 y.effect] 91)) ?_;try simp only [Act.put,pz]
   clear hK K;have ce:=ak bj (.cells #[.string y.key,.bool y.equal,.string y.value,.int .i64 y.effect] 91);refine bP 10 J' U' J' (λK hK=>?_);refine qQ sF _ _ J' (w5.alloc (.cells #[.string y.key,.bool y.equal,.string y.value,.int .i64 y.effect] 91)) wn.heap.size v5 _ _ (mG aM (ak (aj _) _)) J' ⟨w5.heap.size,0,none⟩ 1 1 [.string y.key,.bool y.equal,.string y.value,.int .i64 y.effect] J' J' (DI w5 91 [.string y.key,.bool y.equal,.string y.value,.int .i64 y.effect] w5.heap.size rfl) (zE y) J J fl ?_;exact xz
  ·go_simp;refine hK _ _ (ak Qz (.cells #[.string y.key,.bool y.equal,.string y.value,.int .i64 y.effect] 91)) ?_;try simp only [Act.put,pz]
   clear hK K;have ce:=ak Qz (.cells #[.string y.key,.bool y.equal,.string y.value,.int .i64 y.effect] 91);replace KI:=mG KI (ak (aj _) (.cells #[.string y.key,.bool y.equal,.string y.value,.int .i64 y.effect] 91));refine bP 4 J' U' J' (λK hK=>?_);refine qQ sF _ _ J' ((wn.drew.alloc (.cells #[] 91)).alloc (.cells #[.string y.key,.bool y.equal,.string y.value,.int .i64 y.effect] 91)) wn.heap.size _ 0 [] KI J' ⟨g,0,none⟩ jj cap ((s1.flatMap gh)) J' Wc (λq u hu=>(ce.cell (p:=(⟨g,0,none⟩:Addr).add q) iG).trans (et.out q u hu)) (oc zE s1) J J fl ?_;intro v5 w5 aM cq fi;have bj:Below wn.heap.size wn w5:=Below.grown (ce) cq fl (λq hq=>(KI.lt q hq).1);refine hK _ _ bj ?_;try simp only [Act.put,pz]
   clear hK K;refine bP 10 J' U' J' (λK hK=>?_);refine qQ sF _ _ J' w5 wn.heap.size v5 _ _ aM J' ⟨wn.heap.size+1,0,none⟩ 1 1 [.string y.key,.bool y.equal,.string y.value,.int .i64 y.effect] J' J' (λq u hu=>(World.cell?_of_block uM).trans ((DI (wn.drew.alloc (.cells #[] 91)) 91 [.string y.key,.bool y.equal,.string y.value,.int .i64 y.effect] (wn.heap.size+1) S') q u hu)) (zE y) J J gU ?_;exact mz
 ·go_simp;refine hK _ _ (ak bo (.cells #[.string y.key,.bool y.equal,.string y.value,.int .i64 y.effect] 91)) ?_;try simp only [Act.put,pz]
  clear hK K;have ce:=ak bo (.cells #[.string y.key,.bool y.equal,.string y.value,.int .i64 y.effect] 91);refine bP 0 J' U' J' (λK hK=>?_);go_simp;refine hK _ _ (ak ce (.cells #[] 91)) ?_;try simp only [Act.put,pz]
  clear hK K;have Qz:=ak ce (.cells #[] 91);have KI:=vP (D9 (wn.drew.alloc (.cells #[.string y.key,.bool y.equal,.string y.value,.int .i64 y.effect] 91)) 91 4 (wn.heap.size+1) S') (B':=wn.heap.size) J;refine bP 4 J' U' J' (λK hK=>?_);refine qQ sF _ _ J' ((wn.drew.alloc (.cells #[.string y.key,.bool y.equal,.string y.value,.int .i64 y.effect] 91)).alloc (.cells #[] 91)) wn.heap.size _ 0 [] KI J' ⟨g,0,none⟩ jj cap ((s1.flatMap gh)) J' Wc (λq u hu=>(Qz.cell (p:=(⟨g,0,none⟩:Addr).add q) iG).trans (et.out q u hu)) (oc zE s1) J J fh ?_;intro v5 w5 aM cq fi;have bj:Below wn.heap.size wn w5:=Below.grown (Qz) cq fh (λq hq=>(KI.lt q hq).1);refine hK _ _ bj ?_;try simp only [Act.put,pz]
  clear hK K;refine bP 10 J' U' J' (λK hK=>?_);refine qQ sF _ _ J' w5 wn.heap.size v5 _ _ aM J' ⟨wn.heap.size,0,none⟩ 1 1 [.string y.key,.bool y.equal,.string y.value,.int .i64 y.effect] J' J' (λq u hu=>(World.cell?_of_block uN).trans ((DI wn.drew 91 [.string y.key,.bool y.equal,.string y.value,.int .i64 y.effect] wn.heap.size rfl) q u hu)) (zE y) J J gU ?_
  exact mz):P:=h
theorem Nz {P:Prop} (h:P:=by
 intro HK;have bo:Below wn.heap.size wn wn.drew:=aA (aj _);refine aX 1 _ J' U' H' bo W' ?_;try simp only [Act.put,pz]
 refine aX 2 _ J' U' H' bo W' ?_;try simp only [Act.put,pz]
 refine aX 3 _ J' U' H' bo W' ?_;try simp only [Act.put,pz]
 refine aX 5 _ J' U' H' bo W' ?_;try simp only [Act.put,pz]
 refine aX 6 _ J' U' H' bo W' ?_;try simp only [Act.put,pz]
 refine aX 7 _ J' U' H' bo W' ?_;try simp only [Act.put,pz]
 refine aX 8 _ J' U' H' bo W' ?_;try simp only [Act.put,pz]
 refine D7 0 9 J' J' U' J' J' (λK hK=>?_) (λK hK=>?_)
 ·go_simp;refine hK _ _ (ak bo (.cells #[] 84)) ?_;try simp only [Act.put,pz]
  clear hK K;have Qz:=ak bo (.cells #[] 84);have KI:=D9 wn.drew 84 3 wn.heap.size rfl;refine D7 4 9 J' J' U' J' J' (λK hK=>?_) (λK hK=>?_)
  ·refine qQ sH _ _ J' (wn.drew.alloc (.cells #[] 84)) wn.heap.size _ 0 [] KI J' ⟨g,0,none⟩ jj cap ((s1.flatMap gm)) J' Wd (λq u hu=>(Qz.cell (p:=(⟨g,0,none⟩:Addr).add q) iG).trans (et.out q u hu)) (oc zF s1) J J fh ?_;intro v5 w5 aM cq fi;have bj:Below wn.heap.size wn w5:=Below.grown (Qz) cq fh (λq hq=>(KI.lt q hq).1);refine hK _ _ bj ?_;try simp only [Act.put,pz]
   clear hK K;refine bP 9 J' U' J' (λK hK=>?_);go_simp;refine hK _ _ (ak bj (.cells #[.string y.key,.string y.value,.int .i64 y.effect] 84)) ?_;try simp only [Act.put,pz]
   clear hK K;have ce:=ak bj (.cells #[.string y.key,.string y.value,.int .i64 y.effect] 84);refine bP 10 J' U' J' (λK hK=>?_);refine qQ sH _ _ J' (w5.alloc (.cells #[.string y.key,.string y.value,.int .i64 y.effect] 84)) wn.heap.size v5 _ _ (mG aM (ak (aj _) _)) J' ⟨w5.heap.size,0,none⟩ 1 1 [.string y.key,.string y.value,.int .i64 y.effect] J' J' (DI w5 84 [.string y.key,.string y.value,.int .i64 y.effect] w5.heap.size rfl) (zF y) J J fl ?_;exact xz
  ·go_simp;refine hK _ _ (ak Qz (.cells #[.string y.key,.string y.value,.int .i64 y.effect] 84)) ?_;try simp only [Act.put,pz]
   clear hK K;have ce:=ak Qz (.cells #[.string y.key,.string y.value,.int .i64 y.effect] 84);replace KI:=mG KI (ak (aj _) (.cells #[.string y.key,.string y.value,.int .i64 y.effect] 84));refine bP 4 J' U' J' (λK hK=>?_);refine qQ sH _ _ J' ((wn.drew.alloc (.cells #[] 84)).alloc (.cells #[.string y.key,.string y.value,.int .i64 y.effect] 84)) wn.heap.size _ 0 [] KI J' ⟨g,0,none⟩ jj cap ((s1.flatMap gm)) J' Wd (λq u hu=>(ce.cell (p:=(⟨g,0,none⟩:Addr).add q) iG).trans (et.out q u hu)) (oc zF s1) J J fl ?_;intro v5 w5 aM cq fi;have bj:Below wn.heap.size wn w5:=Below.grown (ce) cq fl (λq hq=>(KI.lt q hq).1);refine hK _ _ bj ?_;try simp only [Act.put,pz]
   clear hK K;refine bP 10 J' U' J' (λK hK=>?_);refine qQ sH _ _ J' w5 wn.heap.size v5 _ _ aM J' ⟨wn.heap.size+1,0,none⟩ 1 1 [.string y.key,.string y.value,.int .i64 y.effect] J' J' (λq u hu=>(World.cell?_of_block uM).trans ((DI (wn.drew.alloc (.cells #[] 84)) 84 [.string y.key,.string y.value,.int .i64 y.effect] (wn.heap.size+1) S') q u hu)) (zF y) J J gU ?_;exact mz
 ·go_simp;refine hK _ _ (ak bo (.cells #[.string y.key,.string y.value,.int .i64 y.effect] 84)) ?_;try simp only [Act.put,pz]
  clear hK K;have ce:=ak bo (.cells #[.string y.key,.string y.value,.int .i64 y.effect] 84);refine bP 0 J' U' J' (λK hK=>?_);go_simp;refine hK _ _ (ak ce (.cells #[] 84)) ?_;try simp only [Act.put,pz]
  clear hK K;have Qz:=ak ce (.cells #[] 84);have KI:=vP (D9 (wn.drew.alloc (.cells #[.string y.key,.string y.value,.int .i64 y.effect] 84)) 84 3 (wn.heap.size+1) S') (B':=wn.heap.size) J;refine bP 4 J' U' J' (λK hK=>?_);refine qQ sH _ _ J' ((wn.drew.alloc (.cells #[.string y.key,.string y.value,.int .i64 y.effect] 84)).alloc (.cells #[] 84)) wn.heap.size _ 0 [] KI J' ⟨g,0,none⟩ jj cap ((s1.flatMap gm)) J' Wd (λq u hu=>(Qz.cell (p:=(⟨g,0,none⟩:Addr).add q) iG).trans (et.out q u hu)) (oc zF s1) J J fh ?_;intro v5 w5 aM cq fi;have bj:Below wn.heap.size wn w5:=Below.grown (Qz) cq fh (λq hq=>(KI.lt q hq).1);refine hK _ _ bj ?_;try simp only [Act.put,pz]
  clear hK K;refine bP 10 J' U' J' (λK hK=>?_);refine qQ sH _ _ J' w5 wn.heap.size v5 _ _ aM J' ⟨wn.heap.size,0,none⟩ 1 1 [.string y.key,.string y.value,.int .i64 y.effect] J' J' (λq u hu=>(World.cell?_of_block uN).trans ((DI wn.drew 84 [.string y.key,.string y.value,.int .i64 y.effect] wn.heap.size rfl) q u hu)) (zF y) J J gU ?_
  exact mz):P:=h
theorem NA {P:Prop} (h:P:=by
 intro HK;have bo:Below wn.heap.size wn wn.drew:=aA (aj _);refine aX 1 _ J' U' H' bo W' ?_;try simp only [Act.put,pz]
 refine aX 2 _ J' U' H' bo W' ?_;try simp only [Act.put,pz]
 refine aX 3 _ J' U' H' bo W' ?_;try simp only [Act.put,pz]
 refine aX 5 _ J' U' H' bo W' ?_;try simp only [Act.put,pz]
 refine aX 6 _ J' U' H' bo W' ?_;try simp only [Act.put,pz]
 refine aX 7 _ J' U' H' bo W' ?_;try simp only [Act.put,pz]
 refine aX 8 _ J' U' H' bo W' ?_;try simp only [Act.put,pz]
 refine D7 0 9 J' J' U' J' J' (λK hK=>?_) (λK hK=>?_)
 ·go_simp;refine hK _ _ (ak bo (.cells #[] 57)) ?_;try simp only [Act.put,pz]
  clear hK K;have Qz:=ak bo (.cells #[] 57);have KI:=D9 wn.drew 57 2 wn.heap.size rfl;refine D7 4 9 J' J' U' J' J' (λK hK=>?_) (λK hK=>?_)
  ·refine qQ sI _ _ J' (wn.drew.alloc (.cells #[] 57)) wn.heap.size _ 0 [] KI J' ⟨g,0,none⟩ jj cap ((s1.flatMap gD)) J' We (λq u hu=>(Qz.cell (p:=(⟨g,0,none⟩:Addr).add q) iG).trans (et.out q u hu)) (oc zG s1) J J fh ?_;intro v5 w5 aM cq fi;have bj:Below wn.heap.size wn w5:=Below.grown (Qz) cq fh (λq hq=>(KI.lt q hq).1);refine hK _ _ bj ?_;try simp only [Act.put,pz]
   clear hK K;refine bP 9 J' U' J' (λK hK=>?_);go_simp;refine hK _ _ (ak bj (.cells #[.string y.key,.string y.value] 57)) ?_;try simp only [Act.put,pz]
   clear hK K;have ce:=ak bj (.cells #[.string y.key,.string y.value] 57);refine bP 10 J' U' J' (λK hK=>?_);refine qQ sI _ _ J' (w5.alloc (.cells #[.string y.key,.string y.value] 57)) wn.heap.size v5 _ _ (mG aM (ak (aj _) _)) J' ⟨w5.heap.size,0,none⟩ 1 1 [.string y.key,.string y.value] J' J' (DI w5 57 [.string y.key,.string y.value] w5.heap.size rfl) (zG y) J J fl ?_;exact xz
  ·go_simp;refine hK _ _ (ak Qz (.cells #[.string y.key,.string y.value] 57)) ?_;try simp only [Act.put,pz]
   clear hK K;have ce:=ak Qz (.cells #[.string y.key,.string y.value] 57);replace KI:=mG KI (ak (aj _) (.cells #[.string y.key,.string y.value] 57));refine bP 4 J' U' J' (λK hK=>?_);refine qQ sI _ _ J' ((wn.drew.alloc (.cells #[] 57)).alloc (.cells #[.string y.key,.string y.value] 57)) wn.heap.size _ 0 [] KI J' ⟨g,0,none⟩ jj cap ((s1.flatMap gD)) J' We (λq u hu=>(ce.cell (p:=(⟨g,0,none⟩:Addr).add q) iG).trans (et.out q u hu)) (oc zG s1) J J fl ?_;intro v5 w5 aM cq fi;have bj:Below wn.heap.size wn w5:=Below.grown (ce) cq fl (λq hq=>(KI.lt q hq).1);refine hK _ _ bj ?_;try simp only [Act.put,pz]
   clear hK K;refine bP 10 J' U' J' (λK hK=>?_);refine qQ sI _ _ J' w5 wn.heap.size v5 _ _ aM J' ⟨wn.heap.size+1,0,none⟩ 1 1 [.string y.key,.string y.value] J' J' (λq u hu=>(World.cell?_of_block uM).trans ((DI (wn.drew.alloc (.cells #[] 57)) 57 [.string y.key,.string y.value] (wn.heap.size+1) S') q u hu)) (zG y) J J gU ?_;exact mz
 ·go_simp;refine hK _ _ (ak bo (.cells #[.string y.key,.string y.value] 57)) ?_;try simp only [Act.put,pz]
  clear hK K;have ce:=ak bo (.cells #[.string y.key,.string y.value] 57);refine bP 0 J' U' J' (λK hK=>?_);go_simp;refine hK _ _ (ak ce (.cells #[] 57)) ?_;try simp only [Act.put,pz]
  clear hK K;have Qz:=ak ce (.cells #[] 57);have KI:=vP (D9 (wn.drew.alloc (.cells #[.string y.key,.string y.value] 57)) 57 2 (wn.heap.size+1) S') (B':=wn.heap.size) J;refine bP 4 J' U' J' (λK hK=>?_);refine qQ sI _ _ J' ((wn.drew.alloc (.cells #[.string y.key,.string y.value] 57)).alloc (.cells #[] 57)) wn.heap.size _ 0 [] KI J' ⟨g,0,none⟩ jj cap ((s1.flatMap gD)) J' We (λq u hu=>(Qz.cell (p:=(⟨g,0,none⟩:Addr).add q) iG).trans (et.out q u hu)) (oc zG s1) J J fh ?_;intro v5 w5 aM cq fi;have bj:Below wn.heap.size wn w5:=Below.grown (Qz) cq fh (λq hq=>(KI.lt q hq).1);refine hK _ _ bj ?_;try simp only [Act.put,pz]
  clear hK K;refine bP 10 J' U' J' (λK hK=>?_);refine qQ sI _ _ J' w5 wn.heap.size v5 _ _ aM J' ⟨wn.heap.size,0,none⟩ 1 1 [.string y.key,.string y.value] J' J' (λq u hu=>(World.cell?_of_block uN).trans ((DI wn.drew 57 [.string y.key,.string y.value] wn.heap.size rfl) q u hu)) (zG y) J J gU ?_
  exact mz):P:=h
theorem NB {P:Prop} (h:P:=by
 intro HK;have bo:Below wn.heap.size wn wn.drew:=aA (aj _);refine aX 1 _ J' U' H' bo W' ?_;try simp only [Act.put,pz]
 refine aX 2 _ J' U' H' bo W' ?_;try simp only [Act.put,pz]
 refine aX 3 _ J' U' H' bo W' ?_;try simp only [Act.put,pz]
 refine aX 5 _ J' U' H' bo W' ?_;try simp only [Act.put,pz]
 refine aX 6 _ J' U' H' bo W' ?_;try simp only [Act.put,pz]
 refine aX 7 _ J' U' H' bo W' ?_;try simp only [Act.put,pz]
 refine aX 8 _ J' U' H' bo W' ?_;try simp only [Act.put,pz]
 refine D7 0 9 J' J' U' J' J' (λK hK=>?_) (λK hK=>?_)
 ·go_simp;refine hK _ _ (ak bo (.cells #[] 9)) ?_;try simp only [Act.put,pz]
  clear hK K;have Qz:=ak bo (.cells #[] 9);have KI:=D9 wn.drew 9 1 wn.heap.size rfl;refine D7 4 9 J' J' U' J' J' (λK hK=>?_) (λK hK=>?_)
  ·refine qQ qw _ _ J' (wn.drew.alloc (.cells #[] 9)) wn.heap.size _ 0 [] KI J' ⟨g,0,none⟩ jj cap (((s1).map Value.string)) J' zp (λq u hu=>(Qz.cell (p:=(⟨g,0,none⟩:Addr).add q) iG).trans (et.out q u hu)) (λu hu=>by obtain ⟨z0,_,rfl⟩:=List.mem_map.1 hu;rfl) J J fh ?_;intro v5 w5 aM cq fi;have bj:Below wn.heap.size wn w5:=Below.grown (Qz) cq fh (λq hq=>(KI.lt q hq).1);refine hK _ _ bj ?_;try simp only [Act.put,pz]
   clear hK K;refine bP 9 J' U' J' (λK hK=>?_);go_simp;refine hK _ _ (ak bj (.cells #[.string y] 9)) ?_;try simp only [Act.put,pz]
   clear hK K;have ce:=ak bj (.cells #[.string y] 9);refine bP 10 J' U' J' (λK hK=>?_);refine qQ qw _ _ J' (w5.alloc (.cells #[.string y] 9)) wn.heap.size v5 _ _ (mG aM (ak (aj _) _)) J' ⟨w5.heap.size,0,none⟩ 1 1 [.string y] J' J' (DI w5 9 [.string y] w5.heap.size rfl) (λu hu=>by rw [List.mem_singleton.1 hu];rfl) J J fl ?_;exact xz
  ·go_simp;refine hK _ _ (ak Qz (.cells #[.string y] 9)) ?_;try simp only [Act.put,pz]
   clear hK K;have ce:=ak Qz (.cells #[.string y] 9);replace KI:=mG KI (ak (aj _) (.cells #[.string y] 9));refine bP 4 J' U' J' (λK hK=>?_);refine qQ qw _ _ J' ((wn.drew.alloc (.cells #[] 9)).alloc (.cells #[.string y] 9)) wn.heap.size _ 0 [] KI J' ⟨g,0,none⟩ jj cap (((s1).map Value.string)) J' zp (λq u hu=>(ce.cell (p:=(⟨g,0,none⟩:Addr).add q) iG).trans (et.out q u hu)) (λu hu=>by obtain ⟨z0,_,rfl⟩:=List.mem_map.1 hu;rfl) J J fl ?_;intro v5 w5 aM cq fi;have bj:Below wn.heap.size wn w5:=Below.grown (ce) cq fl (λq hq=>(KI.lt q hq).1);refine hK _ _ bj ?_;try simp only [Act.put,pz]
   clear hK K;refine bP 10 J' U' J' (λK hK=>?_);refine qQ qw _ _ J' w5 wn.heap.size v5 _ _ aM J' ⟨wn.heap.size+1,0,none⟩ 1 1 [.string y] J' J' (λq u hu=>(World.cell?_of_block uM).trans ((DI (wn.drew.alloc (.cells #[] 9)) 9 [.string y] (wn.heap.size+1) S') q u hu)) (λu hu=>by rw [List.mem_singleton.1 hu];rfl) J J gU ?_;exact mz
 ·go_simp;refine hK _ _ (ak bo (.cells #[.string y] 9)) ?_;try simp only [Act.put,pz]
  clear hK K;have ce:=ak bo (.cells #[.string y] 9);refine bP 0 J' U' J' (λK hK=>?_);go_simp;refine hK _ _ (ak ce (.cells #[] 9)) ?_;try simp only [Act.put,pz]
  clear hK K;have Qz:=ak ce (.cells #[] 9);have KI:=vP (D9 (wn.drew.alloc (.cells #[.string y] 9)) 9 1 (wn.heap.size+1) S') (B':=wn.heap.size) J;refine bP 4 J' U' J' (λK hK=>?_);refine qQ qw _ _ J' ((wn.drew.alloc (.cells #[.string y] 9)).alloc (.cells #[] 9)) wn.heap.size _ 0 [] KI J' ⟨g,0,none⟩ jj cap (((s1).map Value.string)) J' zp (λq u hu=>(Qz.cell (p:=(⟨g,0,none⟩:Addr).add q) iG).trans (et.out q u hu)) (λu hu=>by obtain ⟨z0,_,rfl⟩:=List.mem_map.1 hu;rfl) J J fh ?_;intro v5 w5 aM cq fi;have bj:Below wn.heap.size wn w5:=Below.grown (Qz) cq fh (λq hq=>(KI.lt q hq).1);refine hK _ _ bj ?_;try simp only [Act.put,pz]
  clear hK K;refine bP 10 J' U' J' (λK hK=>?_);refine qQ qw _ _ J' w5 wn.heap.size v5 _ _ aM J' ⟨wn.heap.size,0,none⟩ 1 1 [.string y] J' J' (λq u hu=>(World.cell?_of_block uN).trans ((DI wn.drew 9 [.string y] wn.heap.size rfl) q u hu)) (λu hu=>by rw [List.mem_singleton.1 hu];rfl) J J gU ?_
  exact mz):P:=h
theorem Ka {P:Prop} (h:P:=by
 obtain ⟨Ap,cp,Gp,rfl,OL⟩:=ai.oJ ar bS bN;have X5:ai wr (w.heap.size+1+1) (⟨xs,ps,t4.1,⟨t1.1,t2.1,t3.1⟩⟩:aU) [.slice Ah xs.length ch,.slice Ap ps.length cp,.int .i64 t4.1,.int .i64 t1.1,.int .i64 t2.1,.int .i64 t3.1] (Gh++Gp):=ai.iI hO OL J j8 zt Ss Su Sw Sx;have PG:=I (show nZ s = if ((a',true):Int × Bool) = ((s.size:Int),false)/\iI (⟨xs,ps,t4.1,⟨t1.1,t2.1,t3.1⟩⟩:aU) = true then ((⟨xs,ps,t4.1,⟨t1.1,t2.1,t3.1⟩⟩:aU),true) else (nX,false) by unfold nZ;rw [mb.out]);have Kb:(ps.length:Int)<=1048576:=by omega
 have Hv:=I (λ(wq:World) (hb:Below wr.heap.size wr wq)=>Dx (⟨xs,ps,t4.1,⟨t1.1,t2.1,t3.1⟩⟩:aU) _ _ wq (X5.ext hb).rd BS Kb Eo.out Ob.out);generalize iI (⟨xs,ps,t4.1,⟨t1.1,t2.1,t3.1⟩⟩:aU) = okb at *;have HO:=I X5;have HS:=I hS;have cO:=hS.bp.c1;have nt:=hS.bp.lt;obtain ⟨k0,k1,k2,k3,k4,k5⟩:=cw hS.box;have kl:=hS.box.lt;have kf:=hS.box.fz;obtain ⟨r0,r1,r2,r3,r4,r5⟩:=cw hS.rb;have rl:=hS.rb.lt;have rf:=hS.rb.fz;clear hS X5 OL hO ar bS bN QY BV S6 ma se WV bu;have HF:=I (show nZ s = (nX,false) by rw [PG.out,if_neg S']);have HB:=I HS.out.below;go_wp2_with fail
 iterate 60 (first | go_step | skip)
 exact NC):P:=h
theorem Kc {P:Prop} (h:P:=by
 exact NC):P:=h
theorem DM {P:Prop} (h:P:=by
 go_wp2_with fail
 skip
 refine aF _ U' U' (aj _) ?_
 repeat ((first | refine aG J' ?_ | refine aH _ J' Vv ?_);simp only [Act.put,pz])
 exact Kl):P:=h
theorem NE {P:Prop} (h:P:=by
 try simp only [Bool.and_false,Bool.and_true,Bool.false_and,Bool.and_self] at hp
 have HN:=I (gq hall.out hp);have Gn:=I (gq hfresh.out DO);clear hp;go_wp2_with fail
 clear q0 q1 q2 q3 q4 q5 q6 q7 q8;refine aF _ U' U' (aj _) ?_
 repeat ((first | refine aG J' ?_ | refine aH _ J' Vs ?_);simp only [Act.put,pz])
 exact VB):P:=h
theorem Bx {P:Prop} (h:P:=by
 refine hK _ _ bx ?_;try simp only [Act.put,pz]
 clear hK K;refine bP 11 J' U' J' (λK hK=>?_);go_simp;refine hK _ _ bx ?_;try simp only [Act.put,pz]
 clear hK K;refine nR U' ?_
 exact HK _ _ ⟨g9,p9,_,_,_,_,_,_,_,_,_,_,Io,bx,nK⟩):P:=h
theorem DP {P:Prop} (h:P:=by
 go_wp2_with fail
 skip
 refine aF _ U' U' (aj _) ?_
 repeat ((first | refine aG J' ?_ | refine aH _ J' Vw ?_);simp only [Act.put,pz])
 exact Ks):P:=h
theorem NF {P:Prop} (h:P:=by
 have HN:=I (gq hall.out hp);have Gn:=I (gq hfresh.out DO);clear hp;go_wp2_with fail
 clear q0 q1 q2 q3 q4 q5 q6 q7 q8;refine aF _ U' U' (aj _) ?_
 repeat ((first | refine aG J' ?_ | refine aH _ J' Vu ?_);simp only [Act.put,pz])
 exact VC):P:=h
theorem Cz {P:Prop} (h:P:=by
 rw [HF.out];first | refine ⟨[.slice dG x.aa.length bV,.slice dS x.O.length dJ,.int .i64 x.next,.int .i64 x.weights.pack,.int .i64 x.weights.spread,.int .i64 x.weights.soft],G1,rfl,?_,?_⟩ | refine ⟨[.slice dG x.aa.length bV,.slice dS x.O.length dJ,.int .i64 x.next,.int .i64 x.weights.pack,.int .i64 x.weights.spread,.int .i64 x.weights.soft],rfl,⟨G1,?_⟩,?_⟩
 ·try dsimp only
  refine ai.mono (B:=w.heap.size+1+1+1) ?_ J;exact Ia
 ·exact sl):P:=h
theorem K8 {P:Prop} (h:P:=by
 have RZ:=I bA;clear jX bA h h';go_wp2_with fail
 try dsimp only
 iterate 60 (first | go_step | skip)
 refine bodyPost_ret (v:=.tuple #[.agg #[.slice dG x.aa.length bV,.slice dS x.O.length dJ,.int .i64 x.next,.int .i64 x.weights.pack,.int .i64 x.weights.spread,.int .i64 x.weights.soft],.int .i64 1]) (by simp [results,Tryz.results112,go_sem, *]) rfl ?_;rw [HF.out]
 first
  | refine ⟨[.slice dG x.aa.length bV,.slice dS x.O.length dJ,.int .i64 x.next,.int .i64 x.weights.pack,.int .i64 x.weights.spread,.int .i64 x.weights.soft],G1,rfl,?_,?_⟩
  | refine ⟨[.slice dG x.aa.length bV,.slice dS x.O.length dJ,.int .i64 x.next,.int .i64 x.weights.pack,.int .i64 x.weights.spread,.int .i64 x.weights.soft],rfl,⟨G1,?_⟩,?_⟩
 ·try dsimp only
  refine ai.mono (B:=w.heap.size+1+1+1) ?_ J;exact aus
 ·exact sl):P:=h
theorem BA {P:Prop} (h:P:=by
 refine hK _ _ bx ?_;try simp only [Act.put,pz]
 clear hK K;refine bP 12 J' U' J' (λK hK=>?_);go_simp;refine hK _ _ bx ?_;try simp only [Act.put,pz]
 clear hK K;refine nR U' ?_
 exact HK _ _ ⟨g9,p9,_,_,_,_,_,_,_,_,_,_,_,Io,bx,nK⟩):P:=h
theorem BW {P:Prop} (h:P:=by
 refine hK _ _ bx ?_;try simp only [Act.put,pz]
 clear hK K;refine bP 9 J' U' J' (λK hK=>?_);go_simp;refine hK _ _ bx ?_;try simp only [Act.put,pz]
 clear hK K;refine nR U' ?_
 exact HK _ _ ⟨g9,p9,_,_,_,_,_,_,_,_,Io,bx,nK⟩):P:=h
theorem NI {P:Prop} (h:P:=by
 try simp only [Bool.and_false,Bool.and_true,Bool.false_and,Bool.and_self] at hp
 have HF:=I (dW am hp);clear hp;go_wp2_with fail
 refine aF _ U' U' (aj _) ?_
 repeat ((first | refine aG J' ?_ | refine aH _ J' KM ?_);simp only [Act.put,pz])
 exact Kl):P:=h
theorem KJ {P:Prop} (h:P:=by
 go_wp2;refine bodyPost_ret (v:=.agg #[.string t1.1,.slice A2 L.1.length c2,.int .i64 c.1,.int .i64 m.1,.int .i64 o.1,.slice A6 xs.length c6,.slice A8 ys.length c8]) (by simp [results,Tryz.results49,go_sem, *]) rfl ?_;rw [HF.out]
 first
  | refine ⟨[.string t1.1,.slice A2 L.1.length c2,.int .i64 c.1,.int .i64 m.1,.int .i64 o.1,.slice A6 xs.length c6,.slice A8 ys.length c8],(G2++(G6++G8)),rfl,?_,?_,?_⟩
  | refine ⟨[.string t1.1,.slice A2 L.1.length c2,.int .i64 c.1,.int .i64 m.1,.int .i64 o.1,.slice A6 xs.length c6,.slice A8 ys.length c8],rfl,⟨(G2++(G6++G8)),?_⟩,?_,?_⟩
 ·exact xe
 ·exact avA
 ·exact SZ):P:=h
theorem Kj {P:Prop} (h:P:=by
 intro wq hq;have cN:=(aB hq).1;have lJ:=(aB hq).2;have NJ:=NL.out wq hq;go_simp
 first
  | exact ⟨hq,rfl⟩
  | exact ⟨aQ hq _,rfl⟩
  | (first | (refine (vw x.O[j+1].aS _ _ _ (aJ ku rp) df.ns df.ll df.ls df.nl df.Ti df.tl df.ts).mono ?_;rw [H1.out];rintro e w2 ⟨rfl,ap⟩;exact ⟨rfl,aI hq ap⟩) | (refine (jc x.O[j+1].seq 1 (x.next - 1) _).mono ?_;rw [LQ.out];rintro e w2 ⟨rfl,rfl⟩;exact ⟨rfl,hq⟩) | (refine (gK x _ _ x.O[j+1].on _ (aJ h rp) NV.out).mono ?_;rw [Hg.out];rintro e w2 ⟨rfl,ap⟩;exact ⟨rfl,aI hq ap⟩))
  | (simp only [↓IntWalk.iteOmega];exact ⟨hq,rfl⟩)):P:=h
theorem Kp {P:Prop} (h:P:=by
 intro wq hq;have cN:=(aB hq).1;have lJ:=(aB hq).2;have NJ:=NL.out wq hq;go_simp
 first
  | exact ⟨hq,rfl⟩
  | exact ⟨aQ hq _,rfl⟩
  | (first | (refine (vw x.O[0].aS _ _ _ (aJ ku rp) df.ns df.ll df.ls df.nl df.Ti df.tl df.ts).mono ?_;rw [H1.out];rintro e w2 ⟨rfl,ap⟩;exact ⟨rfl,aI hq ap⟩) | (refine (jc x.O[0].seq 1 (x.next - 1) _).mono ?_;rw [LQ.out];rintro e w2 ⟨rfl,rfl⟩;exact ⟨rfl,hq⟩) | (refine (gK x _ _ x.O[0].on _ (aJ h rp) NV.out).mono ?_;rw [Hg.out];rintro e w2 ⟨rfl,ap⟩;exact ⟨rfl,aI hq ap⟩))
  | (simp only [↓IntWalk.iteOmega];exact ⟨hq,rfl⟩)):P:=h
theorem JR {P:Prop} (h:P:=by
 intro wq hq;have cN:=(aB hq).1;have lJ:=(aB hq).2;go_simp
 first
  | exact ⟨hq,rfl⟩
  | exact ⟨aQ hq _,rfl⟩
  | (first | (refine (wM x.O[j+1].aS _ _ _ (aJ ku rp) df.ns df.ll df.ls df.nl df.Ti df.tl df.ts).mono ?_;rw [H1.out];rintro e w2 ⟨rfl,ap⟩;exact ⟨rfl,aI hq ap⟩) | (refine (kH x.O[j+1].seq 1 (x.next - 1) _).mono ?_;rw [LQ.out];rintro e w2 ⟨rfl,rfl⟩;exact ⟨rfl,hq⟩) | (refine (gQ x _ _ x.O[j+1].on _ (aJ h rp) NV.out).mono ?_;rw [Hg.out];rintro e w2 ⟨rfl,ap⟩;exact ⟨rfl,aI hq ap⟩))
  | (simp only [↓IntWalk.iteOmega];exact ⟨hq,rfl⟩)):P:=h
theorem Ku {P:Prop} (h:P:=by
 intro wq hq;have cN:=(aB hq).1;have lJ:=(aB hq).2;go_simp
 first
  | exact ⟨hq,rfl⟩
  | exact ⟨aQ hq _,rfl⟩
  | (first | (refine (wM x.O[0].aS _ _ _ (aJ ku rp) df.ns df.ll df.ls df.nl df.Ti df.tl df.ts).mono ?_;rw [H1.out];rintro e w2 ⟨rfl,ap⟩;exact ⟨rfl,aI hq ap⟩) | (refine (kH x.O[0].seq 1 (x.next - 1) _).mono ?_;rw [LQ.out];rintro e w2 ⟨rfl,rfl⟩;exact ⟨rfl,hq⟩) | (refine (gQ x _ _ x.O[0].on _ (aJ h rp) NV.out).mono ?_;rw [Hg.out];rintro e w2 ⟨rfl,ap⟩;exact ⟨rfl,aI hq ap⟩))
  | (simp only [↓IntWalk.iteOmega];exact ⟨hq,rfl⟩)):P:=h
theorem Ky {P:Prop} (h:P:=by
 refine ai.up (B':=w1.heap.size+1) (λx:nI=>(x.name,x.labels,x.aw,x.mem,x.av,x.af,x.ae)) ?_ (Nat.le_refl _);refine ai.cons (c1:=[.string t1.1]) (rdStr _ t1.1 J) ?_;refine ai.pair (B2:=B3) (c1:=[.slice A2 L.1.length c2]) (F1:=G2) rc ?_ J Iw;refine ai.cons (c1:=[.int .i64 c.1]) (jL _ c.1 ee) ?_;refine ai.cons (c1:=[.int .i64 m.1]) (jL _ m.1 Mb) ?_;refine ai.cons (c1:=[.int .i64 o.1]) (jL _ o.1 Me) ?_
 exact ai.pair (B2:=B7) (c1:=[.slice A6 xs.length c6]) (F1:=G6) nU hOT J (λy hy=>by have:=si.out.lt y hy;have:=va.out;omega)):P:=h
theorem J0 {P:Prop} (h:P:=by
 intro wq hq;have cN:=(aB hq).1;have lJ:=(aB hq).2;go_simp
 first
  | exact ⟨hq,rfl⟩
  | exact ⟨aQ hq _,rfl⟩
  | (refine (sQ x.aa[j+1] _ _ _ (aJ ek rp) df.ns df.ll df.ls df.tl df.ts).mono ?_;rw [H1.out];rintro e w6 ⟨rfl,dx⟩;exact ⟨rfl,aI hq dx⟩)
  | (simp only [↓IntWalk.iteOmega];exact ⟨hq,rfl⟩)):P:=h
theorem Kk {P:Prop} (h:P:=by
 intro wq hq;have cN:=(aB hq).1;have lJ:=(aB hq).2;go_simp
 first
  | exact ⟨hq,rfl⟩
  | exact ⟨aQ hq _,rfl⟩
  | (refine (sQ x.aa[0] _ _ _ (aJ ek rp) df.ns df.ll df.ls df.tl df.ts).mono ?_;rw [H1.out];rintro e w6 ⟨rfl,dx⟩;exact ⟨rfl,aI hq dx⟩)
  | (simp only [↓IntWalk.iteOmega];exact ⟨hq,rfl⟩)):P:=h
theorem BC {P:Prop} (h:P:=by
 refine aN ?_;intro wn hn;replace hn:=hn.out;obtain ⟨km,ly⟩:=ay hn;have kn:w.heap.size < wn.heap.size:=sq hn.size;have ra:b' < wn.heap.size:=sq hn.size;try (have sc:wr.heap.size < wn.heap.size:=sq hn.size)
 exact sd):P:=h
theorem BY {P:Prop} (h:P:=by
 refine aN ?_;intro wn hn;replace hn:=hn.out;obtain ⟨km,ly⟩:=ay hn;have kn:w.heap.size < wn.heap.size:=sq hn.size;have ra:b < wn.heap.size:=sq hn.size;try (have sc:wr.heap.size < wn.heap.size:=sq hn.size)
 exact sd):P:=h
theorem Kh {P:Prop} (h:P:=by
 refine hK _ _ bx ?_;try simp only [Act.put,pz]
 clear hK K;refine bP 8 J' U' J' (λK hK=>?_);go_simp;refine hK _ _ bx ?_;try simp only [Act.put,pz]
 clear hK K;refine nR U' ?_
 exact HK _ _ ⟨g9,p9,_,_,_,_,_,_,_,Io,bx,nK⟩):P:=h
theorem BB {P:Prop} (h:P:=by
 intro wq hq;have cN:=(aB hq).1;have lJ:=(aB hq).2;go_simp
 first
  | exact ⟨hq,rfl⟩
  | exact ⟨aQ hq _,rfl⟩
  | (fail)
  | (simp only [↓IntWalk.iteOmega];exact ⟨hq,rfl⟩)):P:=h
theorem NN {P:Prop} (h:P:=by
 go_wp2_with fail
 refine aF wr U' U' (aj _) ?_
 repeat ((first | refine aG J' ?_ | refine aH _ J' CE ?_);simp only [Act.put,pz])
 exact wD):P:=h
theorem DQ {P:Prop} (h:P:=by
 refine ⟨⟨k+1,g8,p8,J,N',rfl,?_,?_⟩,by simp [intOf];omega⟩
 ·rw [Jf.out,HI.out];have:=vP Le (B':=w1.heap.size) mq.out.size;exact C1
 ·exact ss):P:=h
theorem NO {P:Prop} (h:P:=by
 go_wp2_with fail
 refine aF wr U' U' (aj _) ?_
 repeat ((first | refine aG J' ?_ | refine aH _ J' du ?_);simp only [Act.put,pz])
 exact wD):P:=h
theorem Km {P:Prop} (h:P:=by
 intro wq hq;have cN:=(aB hq).1;have lJ:=(aB hq).2;go_simp
 first
  | exact ⟨hq,rfl⟩
  | exact ⟨aQ hq _,rfl⟩
  | (refine (rO x.aa[j+1] _ _ _ (aJ ek rp) df.ns df.ll df.ls df.tl df.ts).mono ?_;rw [H1.out];rintro e w6 ⟨rfl,dx⟩;exact ⟨rfl,aI hq dx⟩)
  | (simp only [↓IntWalk.iteOmega];exact ⟨hq,rfl⟩)):P:=h
theorem Kn {P:Prop} (h:P:=by
 intro wq hq;have cN:=(aB hq).1;have lJ:=(aB hq).2;go_simp
 first
  | exact ⟨hq,rfl⟩
  | exact ⟨aQ hq _,rfl⟩
  | (refine (rO x.aa[0] _ _ _ (aJ ek rp) df.ns df.ll df.ls df.tl df.ts).mono ?_;rw [H1.out];rintro e w6 ⟨rfl,dx⟩;exact ⟨rfl,aI hq dx⟩)
  | (simp only [↓IntWalk.iteOmega];exact ⟨hq,rfl⟩)):P:=h
theorem BE {P:Prop} (h:P:=by
 have:=QY.out;rcases hd with rfl | rfl
 ·rw [bt] at this;exact this
 ·cases k with
  | zero=>rw [bt] at this;exact this
  | succ k9=>rw [bt,if_pos rfl] at this;exact this):P:=h
theorem NQ {P:Prop} (h:P:=by
 clear hs;go_wp2_with fail
 refine aF wr U' U' (aj _) ?_
 repeat ((first | refine aG J' ?_ | refine aH _ J' du ?_);simp only [Act.put,pz])
 exact Wb):P:=h
theorem NX {P:Prop} (h:P:=by
 go_wp2_with fail
 refine aF wr U' U' xD ?_
 repeat ((first | refine aG J' ?_ | refine aH _ J' Lq ?_);simp only [Act.put,pz])
 exact Wa):P:=h
theorem Li {P:Prop} (h:P:=by
 clear dx fT lB mo;dsimp only at *;cases b
 ·go_wp2;exact ⟨⟨xs,A',c',G,k+1,rfl,N',J,so.out,Du,j9.out,uW.out,aDc⟩,by simp only [intOf];omega⟩
 ·go_wp2
  exact ⟨⟨u,A6,c6,G6,k+1,rfl,N',J,iD.out,I (ia.out rfl),j9.out,uW.out,I ((Jg.out rfl).mono J)⟩,by simp only [intOf];omega⟩):P:=h
theorem K3 {P:Prop} (h:P:=by
 intro wq hq;have cN:=(aB hq).1;have lJ:=(aB hq).2;go_simp
 first
  | exact ⟨hq,rfl⟩
  | exact ⟨aQ hq _,rfl⟩
  | (refine (xd.out _).mono ?_;rintro e w2 ⟨rfl,ap⟩;exact ⟨rfl,aI hq ap⟩)
  | (simp only [↓IntWalk.iteOmega];exact ⟨hq,rfl⟩)):P:=h
theorem xF {P:Prop} (h:P:=by
 go_enter Tryz.func127,Tryz.ntmps127;go_wp2_with fail
 refine (rX x.key _ kO).mono ?_
 exact Kv):P:=h
theorem xH {P:Prop} (h:P:=by
 go_enter Tryz.func138,Tryz.ntmps138;go_wp2_with fail
 refine (qK x.key _ kO).mono ?_
 exact Kv):P:=h
theorem K5 {P:Prop} (h:P:=by
 rw [HF.out];refine ⟨[.slice dG x.aa.length bV,.slice dS x.O.length dJ,.int .i64 x.next,.int .i64 x.weights.pack,.int .i64 x.weights.spread,.int .i64 x.weights.soft],G1,rfl,?_,?_⟩
 ·try dsimp only
  refine ai.mono (B:=w.heap.size+1+1+1) ?_ J;exact Ia
 ·exact sl):P:=h
theorem N0 {P:Prop} (h:P:=by
 intro v7 w7 nK Ua l7;rw [show 0+0 = 0 by omega,List.nil_append] at nK;obtain ⟨g9,p9,hv7,nr,lv,lw⟩:=wW nK J;subst hv7;have bx:Below wn.heap.size wn w7:=Below.grown (bj) Ua gU (λq hq=>(aM.lt q hq).1)
 exact K2):P:=h
theorem N1 {P:Prop} (h:P:=by
 intro v7 w7 nK Ua l7;rw [show 0+0 = 0 by omega,List.nil_append] at nK;obtain ⟨g9,p9,hv7,nr,lv,lw⟩:=wW nK J;subst hv7;have bx:Below wn.heap.size wn w7:=Below.grown (bj) Ua gU (λq hq=>(aM.lt q hq).1)
 exact K1):P:=h
theorem N3 {P:Prop} (h:P:=by
 cases he2:GX b p.mem with
 | none =>rw [show qG b p.mem = 9223372036854775807 by unfold qG;rw [he2];rfl] at hS2 pT;exact Kd
 | some s2 =>
   rw [show qG b p.mem = s2 by unfold qG;rw [he2];rfl] at hS2 pT
   exact Kd):P:=h
theorem Kr {P:Prop} (h:P:=by
 exact ⟨[.slice kM R.aa.length kN,.slice ny R.O.length nC,.int .i64 R.next,.int .i64 R.weights.pack,.int .i64 R.weights.spread,.int .i64 R.weights.soft],G,rfl,(HO.out.only OB (λb hb=>by have:=HO.out.base b hb;omega)).mono (B':=w.heap.size) J,SQ ap OB J⟩):P:=h
theorem N4 {P:Prop} (h:P:=by
 go_wp2_with fail
 refine aF _ U' U' (aj _) ?_
 repeat ((first | refine aG J' ?_ | refine aH _ J' VA ?_);simp only [Act.put,pz])
 exact VO):P:=h
theorem od {P:Prop} (h:P:=by
 rw [HR.out];rintro e w2 ⟨rfl,ap⟩
 exact ep):P:=h
theorem CL {P:Prop} (h:P:=by
 have hj:=(List.getElem?_eq_some_iff.1 hu).1;rw [<- ht,List.getElem?_take] at hu;split at hu
 ·simpa using hu
 ·cases hu):P:=h
theorem N5 {P:Prop} (h:P:=by
 refine ⟨⟨k+1,N+1,g8,p8,J,J,N',rfl,I ?_,?_,?_⟩,by simp [intOf];omega⟩
 ·exact xf
 ·rw [Jf.out,HI.out];have:=vP Le (B':=w.heap.size) mq.out.size;exact C1
 ·exact ss):P:=h
theorem N6 {P:Prop} (h:P:=by
 try simp only [Bool.and_false,Bool.and_true,Bool.false_and,Bool.and_self] at hp
 have HF:=I (jP am hp);clear hp
 exact vW):P:=h
theorem wC {P:Prop} (h:P:=by
 try dsimp only
 refine ai.mono (B:=w.heap.size+1+1+1) ?_ J
 exact aG0):P:=h
theorem DS {P:Prop} (h:P:=by
 have nz:=I hr;clear hr;go_wp2_with fail
 refine ia.out.mono ?_
 exact Ly):P:=h
theorem C7 {P:Prop} (h:P:=by
 rw [World.cell?_of_block (heap_alloc_old _ _ S'),cell_of_row _ _ _ _ _ _ (heap_alloc_new w _)];rfl):P:=h
theorem N9 {P:Prop} (h:P:=by
 refine ⟨⟨k+1,N+1,g8,p8,J,J,N',rfl,I ?_,?_,?_⟩,by simp [intOf];omega⟩
 ·exact xf
 ·exact VV
 ·exact ss):P:=h
theorem Oc {P:Prop} (h:P:=by
 refine ⟨⟨k+1,N+1,g8,p8,J,J,N',rfl,I ?_,?_,?_⟩,by simp [intOf];omega⟩
 ·exact xf
 ·exact V7
 ·exact ss):P:=h
theorem Od {P:Prop} (h:P:=by
 refine ⟨⟨k+1,N+1,g8,p8,J,J,N',rfl,I ?_,?_,?_⟩,by simp [intOf];omega⟩
 ·exact xf
 ·exact V8
 ·exact ss):P:=h
theorem Of {P:Prop} (h:P:=by
 obtain ⟨R,cd⟩:=RR;dsimp only at HS |-;go_enter Tryz.func66,Tryz.ntmps66;go_wp2_with fail
 refine (HS.out _ _ _ (aZ h cc)).mono ?_
 exact B6):P:=h
theorem Oh {P:Prop} (h:P:=by
 refine aN ?_;intro wn hn;replace hn:=hn.out;simp only [HQ.out]
 exact Mm):P:=h
theorem Oi {P:Prop} (h:P:=by
 have HF:=I (show oH nm x p = 4 by rw [uS.out,if_neg (by simp [hS]),if_neg hu,if_neg (by simp [eO]),if_pos cE])
 exact Cd):P:=h
theorem Ln {P:Prop} (h:P:=by
 rcases Nat.lt_or_ge j k with h9 | h9
 ·exact HW40.out j hj h9
 ·have:j = k:=by omega
  subst this;exact hv40):P:=h
theorem Oj {P:Prop} (h:P:=by
 rw [Ip.out];have:=vP Le (B':=w.heap.size+1) (by have:=e9.out.size;have:=j'.out.size;omega)
 exact C1):P:=h
theorem Ol {P:Prop} (h:P:=by
 by_cases hc:cap = jj
 ·exact xt
 ·exact ⟨⟨g,jj,none⟩,by simp [hc],rfl,λq u hu=>by simp at hu⟩):P:=h
theorem LZ {P:Prop} (h:P:=by
 rename_i bN
 exact ⟨⟨k+1,J,N',by show _ = _;rw [iC am fp,Heq.out];simpa using bN,ah ax hn⟩,by simp [intOf];omega⟩):P:=h
theorem xL {P:Prop} (h:P:=by
 go_enter Tryz.func140,Tryz.ntmps140
 exact pM):P:=h
theorem C0 {P:Prop} (h:P:=by
 go_wp2;go_returns
 exact ⟨by rw [HF.out,HG.out];rfl,rfl⟩):P:=h
theorem Cf {P:Prop} (h:P:=by
 go_wp2;go_ret
 exact ⟨by rw [HF.out];first | rfl | simp,bc⟩):P:=h
theorem Lu {P:Prop} (h:P:=by
 rcases Nat.lt_or_ge g w.heap.size with am | iN
 ·exact am
 ·rw [Array.getElem?_eq_none iN] at hh;cases hh):P:=h
theorem DW {P:Prop} (h:P:=by
 clear hs;go_enter Tryz.func151,Tryz.ntmps151
 exact Ca):P:=h
theorem DY {P:Prop} (h:P:=by
 clear hs;go_enter Tryz.func152,Tryz.ntmps152
 exact Ca):P:=h
theorem DZ {P:Prop} (h:P:=by
 clear hs;go_enter Tryz.func177,Tryz.ntmps177
 exact Ca):P:=h
theorem Lv {P:Prop} (h:P:=by
 intro b d8;rcases List.mem_cons.1 d8 with rfl | d8
 ·exact ⟨bp,e,hh⟩
 ·exact h.plain b d8):P:=h
theorem JU {P:Prop} (h:P:=by
 unfold seenIn;rw [List.any_eq_false];intro u hu;have:=HQ.out u hu
 simp [this]):P:=h
theorem xz {P:Prop} (h:P:=by
 intro v7 w7 nK Ua l7;rw [show 0+jj = jj by omega,List.nil_append] at nK;obtain ⟨g9,p9,hv7,nr,lv,lw⟩:=wW nK J;subst hv7;have bx:Below wn.heap.size wn w7:=Below.grown (ce) Ua fl (λq hq=>(aM.lt q hq).1)
 exact Vn):P:=h
theorem NC {P:Prop} (h:P:=by
 refine bodyPost_ret (v:=.tuple #[.agg #[.slice none 0 0,.slice none 0 0,.int .i64 0,.int .i64 0,.int .i64 0,.int .i64 0],.bool false]) (by simp [results,Tryz.results18,go_sem, *]) rfl ?_;rw [HF.out];have QX:=HB.out
 first
  | refine ⟨[.slice none 0 0,.slice none 0 0,.int .i64 0,.int .i64 0,.int .i64 0,.int .i64 0],[],rfl,?_,?_⟩
  | refine ⟨[.slice none 0 0,.slice none 0 0,.int .i64 0,.int .i64 0,.int .i64 0,.int .i64 0],rfl,⟨[],?_⟩,?_⟩
 ·exact ai.ZW _ _
 ·exact auU):P:=h
theorem By {P:Prop} (h:P:=by
 intro v7 w7 nK Ua l7;rw [show 0+jj = jj by omega,List.nil_append] at nK;obtain ⟨g9,p9,hv7,nr,lv,lw⟩:=wW nK J;subst hv7;have bx:Below wn.heap.size wn w7:=Below.grown (bj) Ua gU (λq hq=>(aM.lt q hq).1)
 exact Bx):P:=h
theorem Ki {P:Prop} (h:P:=by
 intro v7 w7 nK Ua l7;rw [show 0+jj = jj by omega,List.nil_append] at nK;obtain ⟨g9,p9,hv7,nr,lv,lw⟩:=wW nK J;subst hv7;have bx:Below wn.heap.size wn w7:=Below.grown (bj) Ua gU (λq hq=>(aM.lt q hq).1)
 exact Kh):P:=h
theorem JP {P:Prop} (h:P:=by
 intro v7 w7 nK Ua l7;rw [show 0+k = k by omega,List.nil_append] at nK;obtain ⟨g9,p9,hv7,nr,lv,lw⟩:=wW nK J;subst hv7;have bx:Below wn.heap.size wn w7:=Below.grown (bj) Ua gU (λq hq=>(aM.lt q hq).1)
 exact BA):P:=h
theorem Kf {P:Prop} (h:P:=by
 intro v7 w7 nK Ua l7;rw [show 0+k = k by omega,List.nil_append] at nK;obtain ⟨g9,p9,hv7,nr,lv,lw⟩:=wW nK J;subst hv7;have bx:Below wn.heap.size wn w7:=Below.grown (bj) Ua gU (λq hq=>(aM.lt q hq).1)
 exact BW):P:=h
theorem Om {P:Prop} (h:P:=by
 try simp only [Bool.and_false,Bool.and_true,Bool.false_and,Bool.and_self] at hp
 have HF:=I (jP am hp);clear hp
 exact DM):P:=h
theorem sd {P:Prop} (h:P:=by
 go_wp2;go_ret
 exact ⟨by rw [HF.out];rfl,bc⟩):P:=h
theorem xe {P:Prop} (h:P:=by
 refine ai.mono (B:=w1.heap.size+1) ?_ J
 exact avc):P:=h
theorem xN (S:Nat) {w:World} {b o k:Nat} {a0 a1:Value} {r:List Value} (h:∀(j:Nat) (u:Value),(a0::a1::r)[j]? = some u->w.cell? ⟨b,o+(k * S+j),none⟩ = some u):w.cell? ⟨b,o+k * S,none⟩ = some a0/\w.cell? ⟨b,o+k * S+1,none⟩ = some a1:=⟨h 0 _ rfl,by rw [Nat.add_assoc];exact h 1 _ rfl⟩
theorem iX (S:Nat) {w:World} {b o k:Nat} {a0 a1 a2:Value} {r:List Value} (h:∀(j:Nat) (u:Value),(a0::a1::a2::r)[j]? = some u->w.cell? ⟨b,o+(k * S+j),none⟩ = some u):w.cell? ⟨b,o+k * S,none⟩ = some a0/\w.cell? ⟨b,o+k * S+1,none⟩ = some a1/\w.cell? ⟨b,o+k * S+2,none⟩ = some a2:=⟨h 0 _ rfl,by rw [Nat.add_assoc];exact h 1 _ rfl,by rw [Nat.add_assoc];exact h 2 _ rfl⟩
theorem sJ (S:Nat) {w:World} {b o k:Nat} {a0 a1 a2 a3:Value} {r:List Value} (h:∀(j:Nat) (u:Value),(a0::a1::a2::a3::r)[j]? = some u->w.cell? ⟨b,o+(k * S+j),none⟩ = some u):w.cell? ⟨b,o+k * S,none⟩ = some a0/\w.cell? ⟨b,o+k * S+1,none⟩ = some a1/\w.cell? ⟨b,o+k * S+2,none⟩ = some a2/\w.cell? ⟨b,o+k * S+3,none⟩ = some a3:=⟨h 0 _ rfl,by rw [Nat.add_assoc];exact h 1 _ rfl,by rw [Nat.add_assoc];exact h 2 _ rfl,by rw [Nat.add_assoc];exact h 3 _ rfl⟩
theorem mN (S:Nat) {w:World} {b o k:Nat} {a0 a1 a2 a3 a4 a5:Value} {r:List Value} (h:∀(j:Nat) (u:Value),(a0::a1::a2::a3::a4::a5::r)[j]? = some u->w.cell? ⟨b,o+(k * S+j),none⟩ = some u):w.cell? ⟨b,o+k * S,none⟩ = some a0/\w.cell? ⟨b,o+k * S+1,none⟩ = some a1/\w.cell? ⟨b,o+k * S+2,none⟩ = some a2/\w.cell? ⟨b,o+k * S+3,none⟩ = some a3/\w.cell? ⟨b,o+k * S+4,none⟩ = some a4/\w.cell? ⟨b,o+k * S+5,none⟩ = some a5:=⟨h 0 _ rfl,by rw [Nat.add_assoc];exact h 1 _ rfl,by rw [Nat.add_assoc];exact h 2 _ rfl,by rw [Nat.add_assoc];exact h 3 _ rfl,by rw [Nat.add_assoc];exact h 4 _ rfl,by rw [Nat.add_assoc];exact h 5 _ rfl⟩
theorem e'7 (S:Nat) {w:World} {b o k:Nat} {a0 a1 a2 a3 a4 a5 a6:Value} {r:List Value} (h:∀(j:Nat) (u:Value),(a0::a1::a2::a3::a4::a5::a6::r)[j]? = some u->w.cell? ⟨b,o+(k * S+j),none⟩ = some u):w.cell? ⟨b,o+k * S,none⟩ = some a0/\w.cell? ⟨b,o+k * S+1,none⟩ = some a1/\w.cell? ⟨b,o+k * S+2,none⟩ = some a2/\w.cell? ⟨b,o+k * S+3,none⟩ = some a3/\w.cell? ⟨b,o+k * S+4,none⟩ = some a4/\w.cell? ⟨b,o+k * S+5,none⟩ = some a5/\w.cell? ⟨b,o+k * S+6,none⟩ = some a6:=⟨h 0 _ rfl,by rw [Nat.add_assoc];exact h 1 _ rfl,by rw [Nat.add_assoc];exact h 2 _ rfl,by rw [Nat.add_assoc];exact h 3 _ rfl,by rw [Nat.add_assoc];exact h 4 _ rfl,by rw [Nat.add_assoc];exact h 5 _ rfl,by rw [Nat.add_assoc];exact h 6 _ rfl⟩
theorem oY (S:Nat) {w:World} {b o k:Nat} {a0 a1 a2 a3 a4 a5 a6 a7 a8:Value} {r:List Value} (h:∀(j:Nat) (u:Value),(a0::a1::a2::a3::a4::a5::a6::a7::a8::r)[j]? = some u->w.cell? ⟨b,o+(k * S+j),none⟩ = some u):w.cell? ⟨b,o+k * S,none⟩ = some a0/\w.cell? ⟨b,o+k * S+1,none⟩ = some a1/\w.cell? ⟨b,o+k * S+2,none⟩ = some a2/\w.cell? ⟨b,o+k * S+3,none⟩ = some a3/\w.cell? ⟨b,o+k * S+4,none⟩ = some a4/\w.cell? ⟨b,o+k * S+5,none⟩ = some a5/\w.cell? ⟨b,o+k * S+6,none⟩ = some a6/\w.cell? ⟨b,o+k * S+7,none⟩ = some a7/\w.cell? ⟨b,o+k * S+8,none⟩ = some a8:=⟨h 0 _ rfl,by rw [Nat.add_assoc];exact h 1 _ rfl,by rw [Nat.add_assoc];exact h 2 _ rfl,by rw [Nat.add_assoc];exact h 3 _ rfl,by rw [Nat.add_assoc];exact h 4 _ rfl,by rw [Nat.add_assoc];exact h 5 _ rfl,by rw [Nat.add_assoc];exact h 6 _ rfl,by rw [Nat.add_assoc];exact h 7 _ rfl,by rw [Nat.add_assoc];exact h 8 _ rfl⟩
theorem r' {n:Nat} {w w':World} {p:Addr} {u:Value} (h:Below n w w') (k:w.cell? p = some u) (hp:p.block < n):w'.cell? p = some u:=(h.cell hp).trans k
theorem H' {P:Prop} (h:P:=by exact λ_ _ d _ _ h=>by cases d <;> exact h):P:=h
theorem W' {P:Prop} (h:P:=by refine Or.inl ⟨rfl,λwq hq=>?_⟩;have cN:=(aB hq).1;go_simp;try rfl):P:=h
theorem sq {a b:Nat} (hs:a<=b) {P:Prop} (h:a<=b->P:=by intro this;(try simp at this);omega):P:=h hs
theorem pz:(∀{α:Type} (a:List α) (i:Nat) (v:α),a.toArray.setIfInBounds i v = (a.set i v).toArray)/\(∀{α:Type} (x y:α) (l:List α),(x :: l).set 0 y = y :: l)/\(∀{α:Type} (x y:α) (l:List α) (n:Nat),(x :: l).set (n+1) y = x :: l.set n y):=⟨λ_ _ _=>List.setIfInBounds_toArray ..,λ_ _ _=>rfl,λ_ _ _ _=>rfl⟩
theorem bc {P:Prop} (h:P:=by repeat (first | with_reducible exact aj _ | with_reducible assumption | with_reducible refine ak ?_ _ | with_reducible refine ah ?_ (by assumption))) : P := h
theorem cc {P:Prop} (h:P:=by repeat (first | with_reducible exact aj _ | with_reducible assumption | with_reducible refine ak ?_ _ | with_reducible refine aA ?_ | with_reducible refine ah ?_ (by assumption))) : P := h
theorem atV {P:Prop} (h:P:=by first | exact hq | exact hq.out) : P := h
theorem rp {P:Prop} (h:P:=by repeat (first | with_reducible exact hq | with_reducible exact hq.out | with_reducible exact aj _ | with_reducible assumption | with_reducible refine ak ?_ _ | with_reducible refine ah ?_ atV | with_reducible refine ah ?_ (by assumption))) : P := h
theorem bv {P:Prop} (h:P:=by dsimp only;omega) : P := h
theorem atZ {P:Prop} (h:P:=by decide +kernel) : P := h
theorem jp {P:Prop} (h:P:=by unfold maxLen;omega) : P := h
theorem d9 {P:Prop} (h:P:=by simp [World.setCell]) : P := h
theorem dv {P:Prop} (h:P:=by simp [Value.oneCell']) : P := h
theorem pZ {P:Prop} (h:P:=by first | exact bo | exact aj _) : P := h
theorem gn {P:Prop} (h:P:=by first | rfl | (simp;rfl)) : P := h
theorem auf {P:Prop} (h:P:=by unfold Func.isWrapper;first | (rw [if_pos atZ];kernel_rfl) | (rw [if_neg atZ];exact ⟨rfl,rfl⟩)) : P := h
theorem pB {P:Prop} (h:P:=by first | assumption | (unfold aR;omega)) : P := h
theorem Wf {P:Prop} (h:P:=by exact Nat.le_refl _) : P := h
theorem sl {P:Prop} (h:P:=by repeat (first | with_reducible exact aj _ | with_reducible assumption | with_reducible refine aC ?_ bv _ | with_reducible refine ak ?_ _ | with_reducible refine aA ?_ | with_reducible refine ah ?_ (by assumption))) : P := h
theorem xD {P:Prop} (h:P:=by first | exact aj _ | assumption) : P := h
theorem kI {P:Prop} (h:P:=by show w1.heap.size < _;omega) : P := h
theorem Io {P:Prop} (h:P:=by simp only [Act.put,pz];rfl) : P := h
theorem wZ {P:Prop} (h:P:=by show w.heap.size+1+1 < _;omega) : P := h
theorem mu {P:Prop} (h:P:=by show 0 < _->_;intro _;omega) : P := h
theorem rq {P:Prop} (h:P:=by intro e;have:=hr _ e.symm;omega) : P := h
theorem aus {P:Prop} (h:P:=by repeat (first | with_reducible exact RZ.out | with_reducible refine ai.setCell ?_ bv _)) : P := h
theorem uR {P:Prop} (h:P:=by first | exact hq | exact ah (ak (aj _) _) hq) : P := h
theorem auy {P:Prop} (h:P:=by show w.heap.size < _;omega) : P := h
theorem auE {P:Prop} (h:P:=by repeat (first | with_reducible exact QX | with_reducible refine aA ?_ | with_reducible refine aC ?_ Wf _ | with_reducible refine ak ?_ _ | with_reducible refine ah ?_ (by assumption))) : P := h
theorem p' {P:Prop} (h:P:=by unfold aR;omega) : P := h
theorem fh {P:Prop} (h:P:=by have:=(Qz).size;omega) : P := h
theorem fl {P:Prop} (h:P:=by have:=(ce).size;omega) : P := h
theorem gU {P:Prop} (h:P:=by have:=(bj).size;omega) : P := h
theorem zp {P:Prop} (h:P:=by rw [List.length_map,HJ.out,Nat.mul_one]) : P := h
theorem auQ {P:Prop} (h:P:=by first | exact Nat.le_refl _ | (dsimp only;omega)) : P := h
theorem Wg {P:Prop} (h:P:=by dsimp only;have:=HS.out.lt;omega) : P := h
theorem Tj {P:Prop} (h:P:=by repeat (first | with_reducible exact bu | with_reducible exact aj _ | with_reducible assumption | with_reducible refine ak ?_ _ | with_reducible refine ah ?_ (by assumption))) : P := h
theorem auT {P:Prop} (h:P:=by first | exact ah bu hq | exact ah (ak bu _) hq | exact ah bu hq.out | exact ah (ak bu _) hq.out) : P := h
theorem auU {P:Prop} (h:P:=by repeat (first | with_reducible exact QX | with_reducible refine aA ?_ | with_reducible refine aC ?_ Wf _ | with_reducible refine ak ?_ _)) : P := h
theorem auW {P:Prop} (h:P:=by obtain ⟨d0,hs⟩:=fF hA;rw [hs];rfl) : P := h
theorem iG {P:Prop} (h:P:=by rw [Addr.add_lit];exact fa) : P := h
theorem CU {P:Prop} (h:P:=by rw [List.length_append];exact mF) : P := h
theorem xP {P:Prop} (h:P:=by simpa using HN.out) : P := h
theorem ve {P:Prop} (h:P:=by first | rfl | go_num) : P := h
theorem Mx {P:Prop} (h:P:=by rw [iC am fp,Heq.out,he];rfl) : P := h
theorem au2 {P:Prop} (h:P:=by rw [List.take_succ_eq_append_getElem am,J3];exact aM) : P := h
theorem au3 {P:Prop} (h:P:=by have e1:=U3.size;have e2:=hn.size;(try simp at e2);omega) : P := h
theorem Tk {P:Prop} (h:P:=by dsimp only;first | omega | (have:=o8.lt;omega)) : P := h
theorem Wk {P:Prop} (h:P:=by repeat (first | with_reducible exact HS.out.below | with_reducible refine aC ?_ auQ _)) : P := h
theorem avc {P:Prop} (h:P:=by repeat (first | with_reducible exact SF.out | with_reducible refine ai.setCell ?_ auy _)) : P := h
theorem SZ {P:Prop} (h:P:=by repeat (first | with_reducible exact Cg.out.bE | with_reducible refine nN.xZ ?_ Wf _)) : P := h
theorem zH {P:Prop} (h:P:=by first | exact hq | exact hq.out | exact ah (ak (aj _) _) hq) : P := h
theorem Wl {P:Prop} (h:P:=by simp [Value.ownBlock]) : P := h
theorem D0 {P:Prop} (h:P:=by have:=hF y hy;dsimp only;omega) : P := h
theorem Tl {P:Prop} (h:P:=by simpa using h) : P := h
theorem avq {P:Prop} (h:P:=by first | exact Nat.le_refl _ | (simp [World.setCell];done) | (simp [World.setCell];omega)) : P := h
theorem Wm {P:Prop} (h:P:=by dsimp only;first | omega | (have:=D1.lt;omega)) : P := h
theorem On {P:Prop} (h:P:=by have:=h.below.size;omega) : P := h
theorem Wo {P:Prop} (h:P:=by unfold ib;with_reducible exact (ak mQ _)) : P := h
theorem avv {P:Prop} (h:P:=by simpa using hi) : P := h
theorem If {P:Prop} (h:P:=by rw [HE.out];simp) : P := h
theorem avA {P:Prop} (h:P:=by repeat (first | with_reducible exact Cg.out.bp | with_reducible refine yM.br ?_ (by omega) _ _)) : P := h
theorem Iq {P:Prop} (h:P:=by have:=h.hb;have:=h.hg;omega) : P := h
theorem avD {P:Prop} (h:P:=by rw [iC am fp,Heq.out];simpa using bN) : P := h
theorem avE {P:Prop} (h:P:=by first | exact ap | rfl) : P := h
theorem Wq {P:Prop} (h:P:=by rw [List.length_take];omega) : P := h
theorem avJ {P:Prop} (h:P:=by have:=ax.size;(try simp);omega) : P := h
theorem Tm {P:Prop} (h:P:=by have:=ax.size;simp;omega) : P := h
theorem D2 {P:Prop} (h:P:=by rw [List.length_map,HJ.out];omega) : P := h
theorem lI {P:Prop} (h:P:=by have:=bx.size;omega) : P := h
theorem avU {P:Prop} (h:P:=by have:=hg.size;simpa using this) : P := h
theorem avV {P:Prop} (h:P:=by unfold kr;rw [cF,cC]) : P := h
theorem avX {P:Prop} (h:P:=by unfold Em;rw [dC];simp) : P := h
theorem avY {P:Prop} (h:P:=by unfold Em;rw [fS];simp) : P := h
theorem avZ {P:Prop} (h:P:=by unfold Em;simp [hh2]) : P := h
theorem av1 {P:Prop} (h:P:=by unfold Em;simp [hh1]) : P := h
theorem av2 {P:Prop} (h:P:=by rw [sG am,vK];rfl) : P := h
theorem av3 {P:Prop} (h:P:=by dsimp only;first | omega | (have:=pa.lt;omega)) : P := h
theorem av4 {P:Prop} (h:P:=by repeat (first | with_reducible exact gM.out | with_reducible refine ai.setCell ?_ Wg _)) : P := h
theorem av5 {P:Prop} (h:P:=by repeat (first | with_reducible exact RZ.out | with_reducible refine ai.setCell ?_ Wg _)) : P := h
theorem av6 {P:Prop} (h:P:=by repeat (first | with_reducible exact HO.out | with_reducible refine ai.setCell ?_ bv _)) : P := h
theorem Wr {P:Prop} (h:P:=by unfold KF;rw [f']) : P := h
theorem Tn {P:Prop} (h:P:=by rw [List.length_append];exact oe) : P := h
theorem To {P:Prop} (h:P:=by have:=fN.out y hy;dsimp only;omega) : P := h
theorem Tp {P:Prop} (h:P:=by have:=Zn.out y hy;dsimp only;omega) : P := h
theorem Tq {P:Prop} (h:P:=by have:=Ow.out y hy;dsimp only;omega) : P := h
theorem Tr {P:Prop} (h:P:=by have:=h.hg;dsimp only;omega) : P := h
theorem Ts {P:Prop} (h:P:=by rw [h] at hr;cases hr) : P := h
theorem awG {P:Prop} (h:P:=by rw [cell_of_row _ _ _ _ _ _ (heap_alloc_new wr _)];rfl) : P := h
theorem Tt {P:Prop} (h:P:=by rw [List.length_map];exact hl) : P := h
theorem Tu {P:Prop} (h:P:=by rw [YC am HP.out];exact bS) : P := h
theorem Tv {P:Prop} (h:P:=by have:=bj.size;simp;omega) : P := h
theorem awM {P:Prop} (h:P:=by intro e;have:=hr _ e.symm;have:=hF y hy;omega) : P := h
theorem awN {P:Prop} (h:P:=by have:=ax.size;have:=bw.size;(try simp);omega) : P := h
theorem er {P:Prop} (h:P:=by first | exact om | (dsimp only;omega)) : P := h
theorem uM {P:Prop} (h:P:=by rw [Addr.add_lit];exact cq.block (wn.heap.size+1) (by simp) Wl) : P := h
theorem uN {P:Prop} (h:P:=by rw [Addr.add_lit];exact (cq.block wn.heap.size (by simp;omega) Wl).trans (heap_alloc_old _ _ (by simp))) : P := h
theorem awR {P:Prop} (h:P:=by have:=mq.out.size;have:=bx.size;omega) : P := h
theorem awS {P:Prop} (h:P:=by rw [List.length_append,HJ.out];rfl) : P := h
theorem Tw {P:Prop} (h:P:=by rw [List.length_map,nA.out,Nat.mul_one]) : P := h
theorem awU {P:Prop} (h:P:=by have:=IJ.size;simp only [World.setCell,Array.size_modify] at *;omega) : P := h
theorem awV {P:Prop} (h:P:=by show y1.1.size<=_;unfold maxLen;omega) : P := h
theorem awW {P:Prop} (h:P:=by show y3.1.size<=_;unfold maxLen;omega) : P := h
theorem awX {P:Prop} (h:P:=by repeat (first | with_reducible exact HO.out | with_reducible exact ai.ext HO.out bx | with_reducible refine ai.ext ?_ (aA (aj _)) | with_reducible refine ai.setCell ?_ auy _ | with_reducible refine ai.alloc ?_ _)) : P := h
theorem Ia {P:Prop} (h:P:=by repeat (first | with_reducible exact mj.out | with_reducible refine ai.setCell ?_ bv _)) : P := h
theorem Hu {P:Prop} (h:P:=by rw [List.length_take,ga];omega) : P := h
theorem aGO {P:Prop} (h:P:=by have:=HJ.out;omega) : P := h
theorem sK {P:Prop} (h:P:=by first | exact mR | (dsimp only;omega)) : P := h
theorem Tx {P:Prop} (h:P:=by simpa using hk) : P := h
theorem aGR {P:Prop} (h:P:=by repeat (first | with_reducible exact hO | with_reducible refine ai.setCell ?_ bv _)) : P := h
theorem aGS {P:Prop} (h:P:=by repeat (first | with_reducible exact hB | with_reducible refine aC ?_ bv _)) : P := h
theorem Lx {P:Prop} (h:P:=by rw [HR.out];simp) : P := h
theorem xR {P:Prop} (h:P:=by rw [List.getElem?_append_right aGO,show jj - s1.length = 0 by have:=HJ.out;omega];rfl) : P := h
theorem aGV {P:Prop} (h:P:=by repeat (first | with_reducible exact hO | with_reducible refine ai.setCell ?_ bv _ | with_reducible refine ai.alloc ?_ _)) : P := h
theorem aGW {P:Prop} (h:P:=by repeat (first | with_reducible exact hB | with_reducible refine aC ?_ bv _ | with_reducible refine ak ?_ _)) : P := h
theorem SK {P:Prop} (h:P:=by repeat (first | with_reducible exact H9.out.below | with_reducible refine aC ?_ bv _)) : P := h
theorem Ir {P:Prop} (h:P:=by unfold aR;dsimp only;omega) : P := h
theorem SN {P:Prop} (h:P:=by rw [cA];exact vP mn.out (B':=w.heap.size+1+1+1) (by omega)) : P := h
theorem aG0 {P:Prop} (h:P:=by repeat (first | with_reducible exact zB.out | with_reducible refine ai.setCell ?_ bv _ | with_reducible refine ax7 ?_ pG.out)) : P := h
theorem We {P:Prop} (h:P:=by rw [lL (row:=gD) (S:=2) (λ_=>rfl),HJ.out]) : P := h
theorem Vr {P:Prop} (h:P:=by rw [List.length_take,Ty.out];omega) : P := h
theorem Wd {P:Prop} (h:P:=by rw [lL (row:=gm) (S:=3) (λ_=>rfl),HJ.out]) : P := h
theorem Wc {P:Prop} (h:P:=by rw [lL (row:=gh) (S:=4) (λ_=>rfl),HJ.out]) : P := h
theorem Ox {P:Prop} (h:P:=by have:=Du.out;omega) : P := h
theorem Vl {P:Prop} (h:P:=by simpa using h2) : P := h
theorem TA {P:Prop} (h:P:=by rw [di];exact ew) : P := h
theorem TB {P:Prop} (h:P:=by have:=HYW.out;rw [HN.out] at this;exact this) : P := h
theorem TC {P:Prop} (h:P:=by rw [List.length_drop,ga];omega) : P := h
theorem aHa {P:Prop} (h:P:=by rw [Jf.out,HI.out];exact cP.out) : P := h
theorem aHb {P:Prop} (h:P:=by simp [World.setCell,Array.getElem?_modify,h]) : P := h
theorem Wt {P:Prop} (h:P:=by repeat (first | with_reducible exact Gr.refl _ | with_reducible refine Gr.alloc ?_ _ | with_reducible refine Gr.drew ?_)) : P := h
theorem Ww {P:Prop} (h:P:=by unfold ib;with_reducible exact (aC (p:=⟨wr.heap.size,5,none⟩) (aC (p:=⟨wr.heap.size,4,none⟩) (aC (p:=⟨wr.heap.size,3,none⟩) (aC (p:=⟨wr.heap.size,2,none⟩) (aC (p:=⟨wr.heap.size,1,none⟩) (aC (p:=⟨wr.heap.size,0,none⟩) bo kR (.slice Nj r.aa.length Nk)) kR (.slice SB r.O.length SC)) kR (.int .i64 r.next)) kR (.int .i64 r.weights.pack)) kR (.int .i64 r.weights.spread)) kR (.int .i64 r.weights.soft))) : P := h
theorem Wz {P:Prop} (h:P:=by rw [HE.out,List.getElem?_map,List.getElem?_append_right aGO,show jj - s1.length = 0 by have:=HJ.out;omega];rfl) : P := h
theorem ay {W w1:World} (hb:Below W.heap.size W w1):(∀b o,b < W.heap.size->w1.cell? ⟨b,o,none⟩ = W.cell? ⟨b,o,none⟩)/\(∀b o,b < W.heap.size->w1.frozen? ⟨b,o,none⟩ = W.frozen? ⟨b,o,none⟩) :=
 ⟨λb o h=>hb.cell (p:=⟨b,o,none⟩) h,λb o h=>hb.frozen (p:=⟨b,o,none⟩) h⟩
theorem aj (w:World):Below w.heap.size w w:=Below.refl _ _
theorem ah {w w1 w2:World} (h:Below w.heap.size w w1) (k:Below w1.heap.size w1 w2):Below w.heap.size w w2:=h.trans (k.mono h.size)
theorem ak {w w1:World} (h:Below w.heap.size w w1) (o:Obj):Below w.heap.size w (w1.alloc o):=h.alloc h.size o
theorem aA {w w1:World} (h:Below w.heap.size w w1):Below w.heap.size w w1.drew:=h.drew
theorem aC {w w1:World} (h:Below w.heap.size w w1) {p:Addr} (hp:w.heap.size<=p.block) (u:Value):Below w.heap.size w (w1.setCell p u):=h.setCell hp u
section
variable {H:Type} {enc:TypeId × Value->H} {P:Program}
theorem Zi {W W':World} (hl:laidOutB P = true) (hb:Below W.heap.size W W'):∀(ts:List TypeId) (vs:List Value) (ds:List (DataW H)) (ps:List MemPlace) (sp:Nat->Bool),
 (∀t∈ts,P.readableRec t = true/\t < P.types.size)->(∀x∈ps,x.block < W.heap.size)->(∀x∈ps,sp x.block = true) ->
 DataW.TrodAll enc P W 0 (λ_=>true) true ts vs ds ps->DataW.TrodAll enc P W' 0 sp true ts vs ds ps
 | [],[],[],ps,sp,_,_,_,h=>h
 | t :: ts,v :: vs,d :: ds,ps,sp,ht,am,jt,h=>by
   obtain ⟨p,q,h1,h2,rfl⟩:=h;refine ⟨p,q,?_,Zi hl hb ts vs ds q sp (λt' h'=>ht t' (List.mem_cons_of_mem _ h')) (λx hx=>am x (List.mem_append_right _ hx)) (λx hx=>jt x (List.mem_append_right _ hx)) h2,rfl⟩;obtain ⟨hr,hs⟩:=ht t (List.mem_cons_self ..);exact WideElems.Trod_stays hl hr hs h1 (λx hx=>hb.same (am x (List.mem_append_left _ hx))) (λx hx=>jt x (List.mem_append_left _ hx))
 | [],_ :: _,_,_,_,_,_,_,h=>by simp [DataW.TrodAll] at h
 | [],[],_ :: _,_,_,_,_,_,h=>by simp [DataW.TrodAll] at h
 | _ :: _,[],_,_,_,_,_,_,h=>by simp [DataW.TrodAll] at h
 | _ :: _,_ :: _,[],_,_,_,_,_,h=>by simp [DataW.TrodAll] at h
theorem nO {f:Func} {s:ChangeSpec} {apart fresh handsOn:Bool} {W W':World} {args:Array Value} {ds gs:List (DataW H)} {before:List MemPlace} {tb:TypeId}
 (hl:laidOutB P = true) (hr:∀t∈f.params.toList,P.readableRec t = true/\t < P.types.size) (htb:f.resultTypes = #[tb]) (TE:P.underlying tb = some .bool)
 (zI:s.vars = []) (ly:s.fn H ds = { results:=[.lit (.bool true)],args:=ds,vars:=[] })
 (hW:DataW.Whole enc P f.params.toList s.vars apart W args.toList ds gs before) (hb:Below W.heap.size W W') :
 s.post enc P f apart fresh handsOn false W args (.bool true) W':=by
 have am:∀p∈before,p.block < W.heap.size:=λp hp=>hW.lt p hp;have sL:=hW;obtain ⟨p,q,hA,hV,rfl,hz,hn⟩:=sL;rw [zI] at hV;obtain ⟨rfl,rfl⟩:=trodVars_none hV;simp only [List.append_nil] at *;have WA:∀(b:Nat) (sp:Nat->Bool) (hd:Bool),DataW.TrodAll enc P W' b sp hd f.resultTypes.toList ((Value.bool true).resultList f.resultTypes.size) (s.fn H (ds++[])).results []:=by intro b sp hd;rw [htb,List.append_nil,ly];exact trodAll_cons_mk (shut_bool TE _) trodAll_mk0
 have zK:∀sp:Nat->Bool,(∀x∈p,sp x.block = true)->DataW.TrodAll enc P W' 0 sp true f.params.toList args.toList (s.fn H (ds++[])).args p:=by intro sp jt;rw [List.append_nil,ly];exact Zi hl hb _ _ _ _ _ hr am jt hA
 have oo:∀sp:Nat->Bool,DataW.TrodVars enc P W' sp s.vars (s.fn H (ds++[])).vars []:=by intro sp;rw [List.append_nil,ly,zI];rfl
 have hold:∀x∈p,(λb=>decide (b < W.heap.size)) x.block = true:=λx hx=>by simpa using am x hx
 refine ⟨ds,[],p,[],p,[],hW,WA _ _ _,zK _ hold,oo _,World.keptBut_mono (λx hx=>⟨hx,by simpa using hx⟩) (hb.frame (·∈p)),λhag=>by cases hag⟩
end
end Go.Proofs.YtjahcnjmjahbaaaGreat
