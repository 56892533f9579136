/- laws' copies of Host. -/
import Derived.Test.YtogkjlcoadhpgaaGreatAppendAt
import Derived.Test.YtogkjlcoadhpgaaGreatToWeights
namespace Go.Proofs.YtogkjlcoadhpgaaGreat
open Go.ChangeShapes Go.WideShapes Go.ChangeAt Go.RowKit
set_option linter.unusedVariables false
set_option linter.unusedSimpArgs false
theorem asD:(Tryz.prog.info? 71).map (fun i=>(i.zero,i.size,i.bytes)) = some (some (.agg #[.string ⟨#[]⟩,.slice none 0 0,.int .i64 0,.int .i64 0,.int .i64 0,.slice none 0 0]),6,88):=by kernel_rfl
theorem elHost:DL Tryz.prog 29 71 (.agg #[.string ⟨#[]⟩,.slice none 0 0,.int .i64 0,.int .i64 0,.int .i64 0,.slice none 0 0]) 6 88:=⟨Tryz.underlying29,asD,rfl,by omega⟩
set_option maxRecDepth 100000 in
set_option maxHeartbeats 2000000 in
theorem Qq (x:Host) (cs:List Value) (F:List Nat) (w:World) (h:rd w x cs F) (hw:(x.wt:Int)≤1048576) :
 Calls Tryz.prog 44 #[.agg cs.toArray] w fun e w'=>∃cs F,e = .returned (.agg cs.toArray)∧Own w' w.heap.size x cs F∧Below w.heap.size w w':=by
 have HW:=Lib.hid hw
 clear hw
 obtain ⟨_,_,_,_,rfl,rfl,⟨rfl,rfl,hname⟩,_,_,_,_,rfl,rfl,dO,_,_,_,_,rfl,rfl,⟨rfl,rfl,vg⟩,_,_,_,_,rfl,rfl,⟨rfl,rfl,hmem⟩,_,_,_,_,rfl,rfl,⟨rfl,rfl,uI⟩,jq⟩:=h
 obtain ⟨gu,gy,rfl,dO⟩:=jB dO
 obtain ⟨kJ,kK,rfl,jq⟩:=jB jq
 replace hname:=rV (s:=x.name) hname
 replace dO:Sl _ x.labels gu gy _:=dO
 replace vg:I64 x.cpu:=vg
 replace hmem:I64 x.mem:=hmem
 replace uI:I64 x.slots:=uI
 replace jq:Sl _ x.aT kJ kK _:=jq
 simp only [List.cons_append,List.nil_append]
 go_enter Tryz.func44,Tryz.ntmps44
 go_wp2_with (first | (go_at_call 82;refine (KY x.labels _ _ _ _ (dO.ext auC) (by have:=HW.out;unfold Host.wt at this;omega)).mono ?_;rintro e w1 ⟨B1,d1,G1,rfl,jX,hb1⟩;obtain ⟨hc1,hf1⟩:=ay hb1;have zO:w.heap.size < w1.heap.size:=(sq hb1.size);have CO:w.heap.size+1 < w1.heap.size:=(sq hb1.size);have air:w.heap.size+1+1 < w1.heap.size:=(sq hb1.size);replace jX:=jX.mono (B':=w.heap.size+1+1+1) auO) | (go_at_call 83;refine (alo x.aT _ _ _ _ (jq.ext auC) (by have:=HW.out;unfold Host.wt at this;omega)).mono ?_;rintro e w5 ⟨B5,d5,G5,rfl,fH,hb5⟩;obtain ⟨hc5,hf5⟩:=ay hb5;have Sm:w.heap.size < w5.heap.size:=(sq hb5.size);have WW:w.heap.size+1 < w5.heap.size:=(sq hb5.size);have hz52:w.heap.size+1+1 < w5.heap.size:=(sq hb5.size);have IV:w1.heap.size≤w5.heap.size:=(sq hb5.size);replace fH:=fH.mono (B':=w1.heap.size) auO))
 refine bodyPost_ret (v:=.agg #[.string x.name,.slice B1 x.labels.length d1,.int .i64 x.cpu,.int .i64 x.mem,.int .i64 x.slots,.slice B5 x.aT.length d5]) (by simp [results,Tryz.results44,go_sem, *]) rfl ⟨[.string x.name,.slice B1 x.labels.length d1,.int .i64 x.cpu,.int .i64 x.mem,.int .i64 x.slots,.slice B5 x.aT.length d5],G1++(G5),rfl,?_,by repeat (first | with_reducible exact aj _ | with_reducible assumption | with_reducible refine ak ?_ _ | with_reducible refine aC ?_ atY _ | with_reducible refine ah ?_ (by assumption))⟩
 refine Own.up (B':=w.heap.size+1+1+1) (fun x:Host=>(x.name,x.labels,x.cpu,x.mem,x.slots,x.aT)) ?_ (by omega)
 refine Own.cons (c1:=[.string x.name]) (rdStr _ x.name hname) ?_
 refine Own.pair (B2:=w1.heap.size) (c1:=[.slice B1 x.labels.length d1]) (F1:=G1) ?_ ?_ (by omega) jX.lt
 ·exact awI
 refine Own.cons (c1:=[.int .i64 x.cpu]) (jL _ x.cpu vg) ?_
 refine Own.cons (c1:=[.int .i64 x.mem]) (jL _ x.mem hmem) ?_
 refine Own.cons (c1:=[.int .i64 x.slots]) (jL _ x.slots uI) ?_
 exact awY
set_option maxHeartbeats 1000000 in
theorem ang (xs:List Host) (A:Option Addr) (c:Nat) (F:List Nat) (w:World) (h:Sl w xs A c F) (hl:(kL Host.wt xs:Int)≤1048576) :
 Calls Tryz.prog 17 #[.slice A xs.length c] w fun e w'=>∃A c F,e = .returned (.slice A xs.length c)∧Own w' w.heap.size xs [.slice A xs.length c] F∧Below w.heap.size w w':=by
 have hlen:(xs.length:Int)≤1048576:=by have:=gJ Host.wt xs;omega
 have HL:=Lib.hid hl
 clear hl
 have hmk:=run_make_full elHost (by omega) xs.length (by omega)
 go_enter Tryz.func17,Tryz.ntmps17
 go_wp2_with fail
 go_loopw [4] (fun i wr=>∃(k:Nat) (ds:List Value) (G:List Nat),k≤xs.length∧i = .int .i64 k∧Fill wr w.heap.size 71 (xs.length * 6) ds∧Hid (ds.length = k * 6)∧aY wr (w.heap.size+1) (xs.take k) ds G∧Below w.heap.size w wr) (fun i _=>xs.length - (intOf i).toNat)
 case atStart=>exact ⟨0,[],[],Nat.zero_le _,rfl,Fill.made w _ _ _ auF,by show _ = _;simp,.nil _ _,ak (aj _) _⟩
 case round =>
  obtain ⟨k,ds,G,hk,rfl,hf,hd,hO,hbl⟩:=hrel
  by_cases hlt:k < xs.length
  ·obtain ⟨b,o,ck,Fk,rfl,o9,hbs,hr,hsub,hc⟩:=(h.ext hbl).get hlt
   obtain ⟨dU,dV,Ba,kY,kZ,NR,hck,rfl,hname1,jr,IQ,IU,KD,yO⟩:=iy hr
   subst hck
   have q0:wr.cell? ⟨b,o+k * 6,none⟩ = some (.string xs[k].name):=by exact hc 0 _ rfl
   have q1:wr.cell? ⟨b,o+k * 6+1,none⟩ = some (.slice dU xs[k].labels.length dV):=by rw [Nat.add_assoc];exact hc 1 _ rfl
   have q2:wr.cell? ⟨b,o+k * 6+2,none⟩ = some (.int .i64 xs[k].cpu):=by rw [Nat.add_assoc];exact hc 2 _ rfl
   have q3:wr.cell? ⟨b,o+k * 6+3,none⟩ = some (.int .i64 xs[k].mem):=by rw [Nat.add_assoc];exact hc 3 _ rfl
   have q4:wr.cell? ⟨b,o+k * 6+4,none⟩ = some (.int .i64 xs[k].slots):=by rw [Nat.add_assoc];exact hc 4 _ rfl
   have q5:wr.cell? ⟨b,o+k * 6+5,none⟩ = some (.slice kY xs[k].aT.length kZ):=by rw [Nat.add_assoc];exact hc 5 _ rfl
   clear hc
   have hwk:=rM (f:=Host.wt) hlt
   have PU:(Host.wt xs[k]:Int)≤1048576:=by have:=HL.out;omega
   clear hwk
   go_wp2_with (go_at_call 44;refine (Qq xs[k] _ _ _ hr PU).mono ?_;rintro e w2 ⟨cs2,G2,rfl,hO2,hb2⟩
                have hR2:=hO2.rd
                obtain ⟨bY,bZ,iq,wP,wQ,Qe,hck,hG2,jW,dA,kQ,lg,Nh,Bd⟩:=iy hR2
                subst hck
                have hf2:=hf.keep (hb2.block _ hf.lt)
                obtain ⟨u0,hu0⟩:=hf2.cell (i:=k * 6) (by omega);have aeV:=hf2.frozen (k * 6)
                obtain ⟨u1,hu1⟩:=hf2.cell (i:=k * 6+1) (by omega);have hfz1:=hf2.frozen (k * 6+1)
                obtain ⟨u2,hu2⟩:=hf2.cell (i:=k * 6+2) (by omega);have aix:=hf2.frozen (k * 6+2)
                obtain ⟨u3,hu3⟩:=hf2.cell (i:=k * 6+3) (by omega);have hfz3:=hf2.frozen (k * 6+3)
                obtain ⟨u4,Td⟩:=hf2.cell (i:=k * 6+4) (by omega);have hfz4:=hf2.frozen (k * 6+4)
                obtain ⟨u5,hu5⟩:=hf2.cell (i:=k * 6+5) (by omega);have hfz5:=hf2.frozen (k * 6+5))
   have hF:=((((((hf2.gU (o:=k * 6) auz (by omega) (.string xs[k].name)).gU (o:=k * 6+1) at7 (by omega) (.slice bY xs[k].labels.length bZ)).gU (o:=k * 6+2) at7 (by omega) (.int .i64 xs[k].cpu)).gU (o:=k * 6+3) at7 (by omega) (.int .i64 xs[k].mem)).gU (o:=k * 6+4) at7 (by omega) (.int .i64 xs[k].slots)).gU (o:=k * 6+5) at7 (by omega) (.slice wP xs[k].aT.length wQ))
   have hO3:=hO.ext hb2
   replace hO3:=hO3.setCell (p:=⟨w.heap.size,k * 6,none⟩) (Nat.lt_succ_self _) (.string xs[k].name)
   replace hO2:=hO2.setCell (p:=⟨w.heap.size,k * 6,none⟩) hf.lt (.string xs[k].name)
   replace hO3:=hO3.setCell (p:=⟨w.heap.size,k * 6+1,none⟩) (Nat.lt_succ_self _) (.slice bY xs[k].labels.length bZ)
   replace hO2:=hO2.setCell (p:=⟨w.heap.size,k * 6+1,none⟩) hf.lt (.slice bY xs[k].labels.length bZ)
   replace hO3:=hO3.setCell (p:=⟨w.heap.size,k * 6+2,none⟩) (Nat.lt_succ_self _) (.int .i64 xs[k].cpu)
   replace hO2:=hO2.setCell (p:=⟨w.heap.size,k * 6+2,none⟩) hf.lt (.int .i64 xs[k].cpu)
   replace hO3:=hO3.setCell (p:=⟨w.heap.size,k * 6+3,none⟩) (Nat.lt_succ_self _) (.int .i64 xs[k].mem)
   replace hO2:=hO2.setCell (p:=⟨w.heap.size,k * 6+3,none⟩) hf.lt (.int .i64 xs[k].mem)
   replace hO3:=hO3.setCell (p:=⟨w.heap.size,k * 6+4,none⟩) (Nat.lt_succ_self _) (.int .i64 xs[k].slots)
   replace hO2:=hO2.setCell (p:=⟨w.heap.size,k * 6+4,none⟩) hf.lt (.int .i64 xs[k].slots)
   replace hO3:=hO3.setCell (p:=⟨w.heap.size,k * 6+5,none⟩) (Nat.lt_succ_self _) (.slice wP xs[k].aT.length wQ)
   replace hO2:=hO2.setCell (p:=⟨w.heap.size,k * 6+5,none⟩) hf.lt (.slice wP xs[k].aT.length wQ)
   have hP:=hO3.push (B':=wr.heap.size) (x:=xs[k]) hO2 hf.lt hO.lt
   rw [← List.take_succ_eq_append_getElem hlt] at hP
   (try simp only [List.append_assoc,List.cons_append,List.nil_append] at hF)
   exact ⟨⟨k+1,_,_,by omega,by go_num,hF,by show _ = _;(simp [hd.out]) <;> omega,hP,aC (aC (aC (aC (aC (aC (ah hbl hb2) (Nat.le_refl _) _) (Nat.le_refl _) _) (Nat.le_refl _) _) (Nat.le_refl _) _) (Nat.le_refl _) _) (Nat.le_refl _) _⟩,by simp [intOf];omega⟩
  ·exact Zabl
end Go.Proofs.YtogkjlcoadhpgaaGreat
namespace Go.Proofs.YtogkjlcoadhpgaaGreat
open Go.ChangeShapes Go.WideShapes Go.ChangeAt Go.RowKit
set_option linter.unusedVariables false
set_option linter.unusedSimpArgs false
set_option maxRecDepth 100000 in
set_option maxHeartbeats 2000000 in
theorem bF (x:aU) (cs:List Value) (F:List Nat) (w:World) (h:rd w x cs F) (hw:(x.wt:Int)≤1048576) :
 Calls Tryz.prog 6 #[.agg cs.toArray] w fun e w'=>∃cs F,e = .returned (.agg cs.toArray)∧Own w' w.heap.size x cs F∧Below w.heap.size w w':=by
 have HW:=Lib.hid hw
 clear hw
 obtain ⟨_,_,_,_,rfl,rfl,bQ,_,_,_,_,rfl,rfl,dM,_,_,_,_,rfl,rfl,⟨rfl,rfl,hnext⟩,xM⟩:=h
 obtain ⟨bG,bD,rfl,bQ⟩:=jB bQ
 obtain ⟨dn,bW,rfl,dM⟩:=jB dM
 have uJ:=xM
 obtain ⟨rfl,rfl,aV,aP,aW⟩:=mg xM
 replace bQ:Sl _ x.hosts bG bD _:=bQ
 replace dM:Sl _ x.au dn bW _:=dM
 replace hnext:I64 x.next:=hnext
 replace aV:I64 x.weights.pack:=aV
 replace aP:I64 x.weights.spread:=aP
 replace aW:I64 x.weights.soft:=aW
 replace uJ:rd _ x.weights [.int .i64 x.weights.pack,.int .i64 x.weights.spread,.int .i64 x.weights.soft] _:=uJ
 simp only [List.cons_append,List.nil_append]
 go_enter Tryz.func6,Tryz.ntmps6
 iterate 120 (first | go_step | skip)
 (refine (ang x.hosts _ _ _ _ (bQ.ext auC) (by have:=HW.out;unfold aU.wt at this;omega)).mono ?_;rintro e w0 ⟨B0,d0,G0,rfl,hO0,hb0⟩;obtain ⟨hc0,hf0⟩:=ay hb0;have ahZ:w.heap.size < w0.heap.size:=(sq hb0.size);have al6:w.heap.size+1 < w0.heap.size:=(sq hb0.size);have hz02:w.heap.size+1+1 < w0.heap.size:=(sq hb0.size);replace hO0:=hO0.mono (B':=w.heap.size+1+1+1) auO)
 dsimp only
 iterate 120 (first | go_step | skip)
 (refine (aiy x.au _ _ _ _ (dM.ext auC) (by have:=HW.out;unfold aU.wt at this;omega)).mono ?_;rintro e w1 ⟨B1,d1,G1,rfl,jX,hb1⟩;obtain ⟨hc1,hf1⟩:=ay hb1;have zO:w.heap.size < w1.heap.size:=(sq hb1.size);have CO:w.heap.size+1 < w1.heap.size:=(sq hb1.size);have air:w.heap.size+1+1 < w1.heap.size:=(sq hb1.size);have hy1:w0.heap.size≤w1.heap.size:=(sq hb1.size);replace jX:=jX.mono (B':=w0.heap.size) auO)
 dsimp only
 iterate 120 (first | go_step | skip)
 (refine (xH x.weights _ _ _ (Dat.frame uJ (fun b hb=>(show Below w.heap.size w _ from auC).block b (Dat.lt uJ b hb)) (show Below w.heap.size w _ from auC).size) ).mono ?_;rintro e w3 ⟨cs3,G3,rfl,hO3,hb3⟩;obtain ⟨hc3,hf3⟩:=ay hb3;have hz30:w.heap.size < w3.heap.size:=(sq hb3.size);have hz31:w.heap.size+1 < w3.heap.size:=(sq hb3.size);have hz32:w.heap.size+1+1 < w3.heap.size:=(sq hb3.size);have hy3:w1.heap.size≤w3.heap.size:=(sq hb3.size);replace hO3:=hO3.mono (B':=w1.heap.size) auO;have Xz:=hO3.rd;obtain ⟨hck,hG3,hpack3,hspread3,hsoft3⟩:=mg Xz;subst hck;clear hG3 Xz)
 dsimp only
 iterate 160 (first | go_step | skip)
 refine bodyPost_ret (v:=.agg #[.slice B0 x.hosts.length d0,.slice B1 x.au.length d1,.int .i64 x.next,.int .i64 x.weights.pack,.int .i64 x.weights.spread,.int .i64 x.weights.soft]) (by simp [results,Tryz.results6,go_sem, *]) rfl ⟨[.slice B0 x.hosts.length d0,.slice B1 x.au.length d1,.int .i64 x.next,.int .i64 x.weights.pack,.int .i64 x.weights.spread,.int .i64 x.weights.soft],G0++(G1++(G3)),rfl,?_,by repeat (first | with_reducible exact aj _ | with_reducible assumption | with_reducible refine ak ?_ _ | with_reducible refine aC ?_ atY _ | with_reducible refine ah ?_ (by assumption))⟩
 refine Own.up (B':=w.heap.size+1+1+1) (fun x:aU=>(x.hosts,x.au,x.next,x.weights)) ?_ (by omega)
 refine Own.pair (B2:=w0.heap.size) (c1:=[.slice B0 x.hosts.length d0]) (F1:=G0) ?_ ?_ (by omega) hO0.lt
 ·exact Zadn
 refine Own.pair (B2:=w1.heap.size) (c1:=[.slice B1 x.au.length d1]) (F1:=G1) ?_ ?_ (by omega) jX.lt
 ·exact awI
 refine Own.cons (c1:=[.int .i64 x.next]) (jL _ x.next hnext) ?_
 exact (by repeat (first | with_reducible exact hO3 | with_reducible refine Own.setCell ?_ auD _ | with_reducible refine Own.ext ?_ (by assumption) | with_reducible refine Own.alloc ?_ _))
end Go.Proofs.YtogkjlcoadhpgaaGreat
