/- laws' copies of Weights. -/
import Derived.Test.YtogkjlcoadhpgaaGreatAppendAt
import Derived.Test.YtogkjlcoadhpgaaGreatToNeed
namespace Go.Proofs.YtogkjlcoadhpgaaGreat
open Go.ChangeShapes Go.WideShapes Go.ChangeAt Go.RowKit
set_option linter.unusedVariables false
set_option linter.unusedSimpArgs false
set_option maxRecDepth 100000 in
set_option maxHeartbeats 2000000 in
theorem xH (x:rZ) (cs:List Value) (F:List Nat) (w:World) (h:rd w x cs F) :
 Calls Tryz.prog 19 #[.agg cs.toArray] w fun e w'=>∃cs F,e = .returned (.agg cs.toArray)∧Own w' w.heap.size x cs F∧Below w.heap.size w w':=by
 obtain ⟨_,_,_,_,rfl,rfl,⟨rfl,rfl,afb⟩,_,_,_,_,rfl,rfl,⟨rfl,rfl,U0⟩,⟨rfl,rfl,afc⟩⟩:=h
 replace afb:I64 x.pack:=afb
 replace U0:I64 x.spread:=U0
 replace afc:I64 x.soft:=afc
 simp only [List.cons_append,List.nil_append]
 go_enter Tryz.func19,Tryz.ntmps19
 go_wp2
 refine bodyPost_ret (v:=.agg #[.int .i64 x.pack,.int .i64 x.spread,.int .i64 x.soft]) (by simp [results,Tryz.results19,go_sem, *]) rfl ⟨[.int .i64 x.pack,.int .i64 x.spread,.int .i64 x.soft],[],rfl,?_,by repeat (first | with_reducible exact aj _ | with_reducible assumption | with_reducible refine ak ?_ _ | with_reducible refine aC ?_ atY _ | with_reducible refine ah ?_ (by assumption))⟩
 refine Own.up (B':=w.heap.size) (fun x:rZ=>(x.pack,x.spread,x.soft)) ?_ (by omega)
 refine Own.cons (c1:=[.int .i64 x.pack]) (jL _ x.pack afb) ?_
 refine Own.cons (c1:=[.int .i64 x.spread]) (jL _ x.spread U0) ?_
 exact Own.flat (jL _ x.soft afc)
end Go.Proofs.YtogkjlcoadhpgaaGreat
namespace Go.Proofs.YtogkjlcoadhpgaaGreat
open Go.ChangeShapes Go.WideShapes Go.ChangeAt Go.RowKit
set_option linter.unusedVariables false
set_option linter.unusedSimpArgs false
theorem adl:(Tryz.prog.info? 123).map (fun i=>(i.zero,i.size,i.bytes)) = some (some (.agg #[.string ⟨#[]⟩,.string ⟨#[]⟩]),2,32):=by kernel_rfl
theorem ae6:DL Tryz.prog 68 123 (.agg #[.string ⟨#[]⟩,.string ⟨#[]⟩]) 2 32:=⟨Tryz.underlying68,adl,rfl,by omega⟩
set_option maxRecDepth 100000 in
set_option maxHeartbeats 2000000 in
theorem ank (x:Label) (cs:List Value) (F:List Nat) (w:World) (h:rd w x cs F) (hw:(x.wt:Int)≤1048576) :
 Calls Tryz.prog 123 #[.agg cs.toArray] w fun e w'=>∃cs F,e = .returned (.agg cs.toArray)∧Own w' w.heap.size x cs F∧Below w.heap.size w w':=by
 have HW:=Lib.hid hw
 clear hw
 obtain ⟨_,_,_,_,rfl,rfl,⟨rfl,rfl,hkey⟩,⟨rfl,rfl,kP⟩⟩:=h
 replace hkey:=rV (s:=x.key) hkey
 replace kP:=rV (s:=x.value) kP
 simp only [List.cons_append,List.nil_append]
 go_enter Tryz.func123,Tryz.ntmps123
 go_wp2
 refine bodyPost_ret (v:=.agg #[.string x.key,.string x.value]) (by simp [results,Tryz.results123,go_sem, *]) rfl ⟨[.string x.key,.string x.value],[],rfl,?_,by repeat (first | with_reducible exact aj _ | with_reducible assumption | with_reducible refine ak ?_ _ | with_reducible refine aC ?_ atY _ | with_reducible refine ah ?_ (by assumption))⟩
 refine Own.up (B':=w.heap.size) (fun x:Label=>(x.key,x.value)) ?_ (by omega)
 refine Own.cons (c1:=[.string x.key]) (rdStr _ x.key hkey) ?_
 exact Own.flat (rdStr _ x.value kP)
set_option maxHeartbeats 1000000 in
theorem KY (xs:List Label) (A:Option Addr) (c:Nat) (F:List Nat) (w:World) (h:Sl w xs A c F) (hl:(kL Label.wt xs:Int)≤1048576) :
 Calls Tryz.prog 82 #[.slice A xs.length c] w fun e w'=>∃A c F,e = .returned (.slice A xs.length c)∧Own w' w.heap.size xs [.slice A xs.length c] F∧Below w.heap.size w w':=by
 have hlen:(xs.length:Int)≤1048576:=by have:=gJ Label.wt xs;omega
 have HL:=Lib.hid hl
 clear hl
 have hmk:=run_make_full ae6 (by omega) xs.length (by omega)
 go_enter Tryz.func82,Tryz.ntmps82
 go_wp2_with fail
 go_loopw [4] (fun i wr=>∃(k:Nat) (ds:List Value) (G:List Nat),k≤xs.length∧i = .int .i64 k∧Fill wr w.heap.size 123 (xs.length * 2) ds∧Hid (ds.length = k * 2)∧aY wr (w.heap.size+1) (xs.take k) ds G∧Below w.heap.size w wr) (fun i _=>xs.length - (intOf i).toNat)
 case atStart=>exact ⟨0,[],[],Nat.zero_le _,rfl,Fill.made w _ _ _ auF,by show _ = _;simp,.nil _ _,ak (aj _) _⟩
 case round =>
  obtain ⟨k,ds,G,hk,rfl,hf,hd,hO,hbl⟩:=hrel
  by_cases hlt:k < xs.length
  ·obtain ⟨b,o,ck,Fk,rfl,o9,hbs,hr,hsub,hc⟩:=(h.ext hbl).get hlt
   obtain ⟨hck,rfl,xO,xk⟩:=vO hr
   subst hck
   have q0:wr.cell? ⟨b,o+k * 2,none⟩ = some (.string xs[k].key):=by exact hc 0 _ rfl
   have q1:wr.cell? ⟨b,o+k * 2+1,none⟩ = some (.string xs[k].value):=by rw [Nat.add_assoc];exact hc 1 _ rfl
   clear hc
   have hwk:=rM (f:=Label.wt) hlt
   have PU:(Label.wt xs[k]:Int)≤1048576:=by have:=HL.out;omega
   clear hwk
   go_wp2_with (go_at_call 123;refine (ank xs[k] _ _ _ hr PU).mono ?_;rintro e w2 ⟨cs2,G2,rfl,hO2,hb2⟩
                have hR2:=hO2.rd
                obtain ⟨hck,hG2,vC,rP⟩:=vO hR2
                subst hck
                have hf2:=hf.keep (hb2.block _ hf.lt)
                obtain ⟨u0,hu0⟩:=hf2.cell (i:=k * 2) (by omega);have aeV:=hf2.frozen (k * 2)
                obtain ⟨u1,hu1⟩:=hf2.cell (i:=k * 2+1) (by omega);have hfz1:=hf2.frozen (k * 2+1))
   have hF:=((hf2.gU (o:=k * 2) auz (by omega) (.string xs[k].key)).gU (o:=k * 2+1) at7 (by omega) (.string xs[k].value))
   have hO3:=hO.ext hb2
   replace hO3:=hO3.setCell (p:=⟨w.heap.size,k * 2,none⟩) (Nat.lt_succ_self _) (.string xs[k].key)
   replace hO2:=hO2.setCell (p:=⟨w.heap.size,k * 2,none⟩) hf.lt (.string xs[k].key)
   replace hO3:=hO3.setCell (p:=⟨w.heap.size,k * 2+1,none⟩) (Nat.lt_succ_self _) (.string xs[k].value)
   replace hO2:=hO2.setCell (p:=⟨w.heap.size,k * 2+1,none⟩) hf.lt (.string xs[k].value)
   have hP:=hO3.push (B':=wr.heap.size) (x:=xs[k]) hO2 hf.lt hO.lt
   rw [← List.take_succ_eq_append_getElem hlt] at hP
   (try simp only [List.append_assoc,List.cons_append,List.nil_append] at hF)
   exact ⟨⟨k+1,_,_,by omega,by go_num,hF,by show _ = _;(simp [hd.out]) <;> omega,hP,aC (aC (ah hbl hb2) (Nat.le_refl _) _) (Nat.le_refl _) _⟩,by simp [intOf];omega⟩
  ·exact Zabl
end Go.Proofs.YtogkjlcoadhpgaaGreat
namespace Go.Proofs.YtogkjlcoadhpgaaGreat
open Go.ChangeShapes Go.WideShapes Go.ChangeAt Go.RowKit
set_option linter.unusedVariables false
set_option linter.unusedSimpArgs false
set_option maxRecDepth 100000 in
set_option maxHeartbeats 2000000 in
theorem kD (x:nI) (cs:List Value) (F:List Nat) (w:World) (h:rd w x cs F) (hw:(x.wt:Int)≤1048576) :
 Calls Tryz.prog 84 #[.agg cs.toArray] w fun e w'=>∃cs F,e = .returned (.agg cs.toArray)∧Own w' w.heap.size x cs F∧Below w.heap.size w w':=by
 have HW:=Lib.hid hw
 clear hw
 obtain ⟨_,_,_,_,rfl,rfl,⟨rfl,rfl,hname⟩,_,_,_,_,rfl,rfl,dO,_,_,_,_,rfl,rfl,⟨rfl,rfl,vg⟩,_,_,_,_,rfl,rfl,⟨rfl,rfl,hmem⟩,_,_,_,_,rfl,rfl,⟨rfl,rfl,BJ⟩,_,_,_,_,rfl,rfl,mX,eG⟩:=h
 obtain ⟨gu,gy,rfl,dO⟩:=jB dO
 obtain ⟨oh,nT,rfl,mX⟩:=jB mX
 obtain ⟨fA,fB,rfl,eG⟩:=jB eG
 replace hname:=rV (s:=x.name) hname
 replace dO:Sl _ x.labels gu gy _:=dO
 replace vg:I64 x.cpu:=vg
 replace hmem:I64 x.mem:=hmem
 replace BJ:I64 x.rank:=BJ
 replace mX:Sl _ x.needs oh nT _:=mX
 replace eG:Sl _ x.tolerances fA fB _:=eG
 simp only [List.cons_append,List.nil_append]
 go_enter Tryz.func84,Tryz.ntmps84
 go_wp2_with (first | (go_at_call 82;refine (KY x.labels _ _ _ _ (dO.ext auC) awZ).mono ?_;rintro e w1 ⟨B1,d1,G1,rfl,jX,hb1⟩;obtain ⟨hc1,hf1⟩:=ay hb1;have zO:w.heap.size < w1.heap.size:=(sq hb1.size);have CO:w.heap.size+1 < w1.heap.size:=(sq hb1.size);have air:w.heap.size+1+1 < w1.heap.size:=(sq hb1.size);replace jX:=jX.mono (B':=w.heap.size+1+1+1) auO) | (go_at_call 125;refine (anh x.needs _ _ _ _ (mX.ext auC) awZ).mono ?_;rintro e w5 ⟨B5,d5,G5,rfl,fH,hb5⟩;obtain ⟨hc5,hf5⟩:=ay hb5;have Sm:w.heap.size < w5.heap.size:=(sq hb5.size);have WW:w.heap.size+1 < w5.heap.size:=(sq hb5.size);have hz52:w.heap.size+1+1 < w5.heap.size:=(sq hb5.size);have IV:w1.heap.size≤w5.heap.size:=(sq hb5.size);replace fH:=fH.mono (B':=w1.heap.size) auO) | (go_at_call 126;refine (adv x.tolerances _ _ _ _ (eG.ext auC) awZ).mono ?_;rintro e w6 ⟨B6,d6,G6,rfl,iD,hb6⟩;obtain ⟨hc6,Xe⟩:=ay hb6;have al2:w.heap.size < w6.heap.size:=(sq hb6.size);have hz61:w.heap.size+1 < w6.heap.size:=(sq hb6.size);have hz62:w.heap.size+1+1 < w6.heap.size:=(sq hb6.size);have hy6:w5.heap.size≤w6.heap.size:=(sq hb6.size);replace iD:=iD.mono (B':=w5.heap.size) auO))
 refine bodyPost_ret (v:=.agg #[.string x.name,.slice B1 x.labels.length d1,.int .i64 x.cpu,.int .i64 x.mem,.int .i64 x.rank,.slice B5 x.needs.length d5,.slice B6 x.tolerances.length d6]) (by simp [results,Tryz.results84,go_sem, *]) rfl ⟨[.string x.name,.slice B1 x.labels.length d1,.int .i64 x.cpu,.int .i64 x.mem,.int .i64 x.rank,.slice B5 x.needs.length d5,.slice B6 x.tolerances.length d6],G1++(G5++(G6)),rfl,?_,by repeat (first | with_reducible exact aj _ | with_reducible assumption | with_reducible refine ak ?_ _ | with_reducible refine aC ?_ atY _ | with_reducible refine ah ?_ (by assumption))⟩
 refine Own.up (B':=w.heap.size+1+1+1) (fun x:nI=>(x.name,x.labels,x.cpu,x.mem,x.rank,x.needs,x.tolerances)) ?_ (by omega)
 refine Own.cons (c1:=[.string x.name]) (rdStr _ x.name hname) ?_
 refine Own.pair (B2:=w1.heap.size) (c1:=[.slice B1 x.labels.length d1]) (F1:=G1) ?_ ?_ (by omega) jX.lt
 ·exact awI
 refine Own.cons (c1:=[.int .i64 x.cpu]) (jL _ x.cpu vg) ?_
 refine Own.cons (c1:=[.int .i64 x.mem]) (jL _ x.mem hmem) ?_
 refine Own.cons (c1:=[.int .i64 x.rank]) (jL _ x.rank BJ) ?_
 refine Own.pair (B2:=w5.heap.size) (c1:=[.slice B5 x.needs.length d5]) (F1:=G5) ?_ ?_ (by omega) fH.lt
 ·exact awY
 exact (by repeat (first | with_reducible exact iD | with_reducible refine Own.setCell ?_ auD _ | with_reducible refine Own.ext ?_ (by assumption) | with_reducible refine Own.alloc ?_ _))
end Go.Proofs.YtogkjlcoadhpgaaGreat
namespace Go.Proofs.YtogkjlcoadhpgaaGreat
open Go.ChangeShapes Go.WideShapes Go.ChangeAt Go.RowKit
set_option linter.unusedVariables false
set_option linter.unusedSimpArgs false
theorem ao1:(Tryz.prog.info? 78).map (fun i=>(i.zero,i.size,i.bytes)) = some (some (.agg #[.string ⟨#[]⟩,.slice none 0 0,.int .i64 0,.int .i64 0,.int .i64 0,.slice none 0 0,.slice none 0 0,.string ⟨#[]⟩,.int .i64 0]),9,136):=by kernel_rfl
theorem asE:DL Tryz.prog 30 78 (.agg #[.string ⟨#[]⟩,.slice none 0 0,.int .i64 0,.int .i64 0,.int .i64 0,.slice none 0 0,.slice none 0 0,.string ⟨#[]⟩,.int .i64 0]) 9 136:=⟨Tryz.underlying30,ao1,rfl,by omega⟩
set_option maxRecDepth 100000 in
set_option maxHeartbeats 2000000 in
theorem alp (x:Placed) (cs:List Value) (F:List Nat) (w:World) (h:rd w x cs F) (hw:(x.wt:Int)≤1048576) :
 Calls Tryz.prog 45 #[.agg cs.toArray] w fun e w'=>∃cs F,e = .returned (.agg cs.toArray)∧Own w' w.heap.size x cs F∧Below w.heap.size w w':=by
 have HW:=Lib.hid hw
 clear hw
 obtain ⟨_,_,_,_,rfl,rfl,WT,_,_,_,_,rfl,rfl,⟨rfl,rfl,hon⟩,⟨rfl,rfl,hseq⟩⟩:=h
 have kG:=WT
 obtain ⟨gV,gW,lF,iR,iT,mV,dD,dF,iH,rfl,rfl,nY,iE,rF,rG,oZ,je,dN⟩:=dL WT
 replace nY:=rV (s:=x.aS.name) nY
 replace iE:Sl _ x.aS.labels gV gW _:=iE
 replace rF:I64 x.aS.cpu:=rF
 replace rG:I64 x.aS.mem:=rG
 replace oZ:I64 x.aS.rank:=oZ
 replace je:Sl _ x.aS.needs iR iT _:=je
 replace dN:Sl _ x.aS.tolerances dD dF _:=dN
 replace hon:=rV (s:=x.on) hon
 replace hseq:I64 x.seq:=hseq
 replace kG:rd _ x.aS [.string x.aS.name,.slice gV x.aS.labels.length gW,.int .i64 x.aS.cpu,.int .i64 x.aS.mem,.int .i64 x.aS.rank,.slice iR x.aS.needs.length iT,.slice dD x.aS.tolerances.length dF] _:=kG
 simp only [List.cons_append,List.nil_append]
 go_enter Tryz.func45,Tryz.ntmps45
 iterate 120 (first | go_step | skip)
 (refine ahD ?_;intro W0 x0 x1 x2 xz xb;refine (kD x.aS _ _ W0 (Dat.frame kG (fun b hb=>xb.block b (Dat.lt kG b hb)) xb.size) (by have:=HW.out;unfold Placed.wt at this;omega)).mono ?_;rintro e w0 ⟨cs0,G0,rfl,hO0,hb0⟩;have hs0:=hb0.size;rw [xz] at hs0;replace x0:=(hb0.block _ (by omega)).trans x0;replace x1:=(hb0.block _ (by omega)).trans x1;replace x2:=(hb0.block _ (by omega)).trans x2;have hc0:=P7 x0;have hc1:=P7 x1;have hc2:=P7 x2;have hf0:=MX x0;have hf1:=MX x1;have hf2:=MX x2;clear x0 x1 x2;have ahZ:w.heap.size < w0.heap.size:=(by omega);have al6:w.heap.size+1 < w0.heap.size:=(by omega);have hz02:w.heap.size+1+1 < w0.heap.size:=(by omega);rw [xz] at hO0;have hR0:=hO0.rd;obtain ⟨ahE,ahF,Flabels0,alq,alr,Fneeds0,Wi,Wj,atG,hck,hG0,hname0,hlabels0,hcpu0,hmem0,hrank0,hneeds0,atH⟩:=dL hR0;subst hck;clear hG0 hR0)
 dsimp only
 iterate 160 (first | go_step | skip)
 refine bodyPost_ret (v:=.agg #[.string x.aS.name,.slice ahE x.aS.labels.length ahF,.int .i64 x.aS.cpu,.int .i64 x.aS.mem,.int .i64 x.aS.rank,.slice alq x.aS.needs.length alr,.slice Wi x.aS.tolerances.length Wj,.string x.on,.int .i64 x.seq]) (by simp [results,Tryz.results45,go_sem, *]) rfl ⟨[.string x.aS.name,.slice ahE x.aS.labels.length ahF,.int .i64 x.aS.cpu,.int .i64 x.aS.mem,.int .i64 x.aS.rank,.slice alq x.aS.needs.length alr,.slice Wi x.aS.tolerances.length Wj,.string x.on,.int .i64 x.seq],G0++([]),rfl,?_,by repeat (first | with_reducible exact aj _ | with_reducible assumption | with_reducible refine ak ?_ _ | with_reducible refine aC ?_ atY _ | with_reducible refine ah ?_ (by assumption))⟩
 refine Own.up (B':=w.heap.size+1+1+1) (fun x:Placed=>(x.aS,x.on,x.seq)) ?_ (by omega)
 refine Own.pair (B2:=w0.heap.size) (c1:=[.string x.aS.name,.slice ahE x.aS.labels.length ahF,.int .i64 x.aS.cpu,.int .i64 x.aS.mem,.int .i64 x.aS.rank,.slice alq x.aS.needs.length alr,.slice Wi x.aS.tolerances.length Wj]) (F1:=G0) ?_ ?_ (by omega) hO0.lt
 ·exact Zadn
 refine Own.cons (c1:=[.string x.on]) (rdStr _ x.on hon) ?_
 exact Own.flat (jL _ x.seq hseq)
set_option maxHeartbeats 1000000 in
theorem aiy (xs:List Placed) (A:Option Addr) (c:Nat) (F:List Nat) (w:World) (h:Sl w xs A c F) (hl:(kL Placed.wt xs:Int)≤1048576) :
 Calls Tryz.prog 18 #[.slice A xs.length c] w fun e w'=>∃A c F,e = .returned (.slice A xs.length c)∧Own w' w.heap.size xs [.slice A xs.length c] F∧Below w.heap.size w w':=by
 have hlen:(xs.length:Int)≤1048576:=by have:=gJ Placed.wt xs;omega
 have HL:=Lib.hid hl
 clear hl
 have hmk:=run_make_full asE (by omega) xs.length (by omega)
 go_enter Tryz.func18,Tryz.ntmps18
 go_wp2_with fail
 go_loopw [4] (fun i wr=>∃(k:Nat) (ds:List Value) (G:List Nat),k≤xs.length∧i = .int .i64 k∧Fill wr w.heap.size 78 (xs.length * 9) ds∧Hid (ds.length = k * 9)∧aY wr (w.heap.size+1) (xs.take k) ds G∧Below w.heap.size w wr) (fun i _=>xs.length - (intOf i).toNat)
 case atStart=>exact ⟨0,[],[],Nat.zero_le _,rfl,Fill.made w _ _ _ auF,by show _ = _;simp,.nil _ _,ak (aj _) _⟩
 case round =>
  obtain ⟨k,ds,G,hk,rfl,hf,hd,hO,hbl⟩:=hrel
  by_cases hlt:k < xs.length
  ·obtain ⟨b,o,ck,Fk,rfl,o9,hbs,hr,hsub,hc⟩:=(h.ext hbl).get hlt
   obtain ⟨pO,pR,EY,rH,rJ,He,kT,kU,yu,hck,rfl,Dq,yw,FW,FX,Dt,Az,qH,anH,afa⟩:=kE hr
   subst hck
   have q0:wr.cell? ⟨b,o+k * 9,none⟩ = some (.string xs[k].aS.name):=by exact hc 0 _ rfl
   have q1:wr.cell? ⟨b,o+k * 9+1,none⟩ = some (.slice pO xs[k].aS.labels.length pR):=by rw [Nat.add_assoc];exact hc 1 _ rfl
   have q2:wr.cell? ⟨b,o+k * 9+2,none⟩ = some (.int .i64 xs[k].aS.cpu):=by rw [Nat.add_assoc];exact hc 2 _ rfl
   have q3:wr.cell? ⟨b,o+k * 9+3,none⟩ = some (.int .i64 xs[k].aS.mem):=by rw [Nat.add_assoc];exact hc 3 _ rfl
   have q4:wr.cell? ⟨b,o+k * 9+4,none⟩ = some (.int .i64 xs[k].aS.rank):=by rw [Nat.add_assoc];exact hc 4 _ rfl
   have q5:wr.cell? ⟨b,o+k * 9+5,none⟩ = some (.slice rH xs[k].aS.needs.length rJ):=by rw [Nat.add_assoc];exact hc 5 _ rfl
   have q6:wr.cell? ⟨b,o+k * 9+6,none⟩ = some (.slice kT xs[k].aS.tolerances.length kU):=by rw [Nat.add_assoc];exact hc 6 _ rfl
   have q7:wr.cell? ⟨b,o+k * 9+7,none⟩ = some (.string xs[k].on):=by rw [Nat.add_assoc];exact hc 7 _ rfl
   have q8:wr.cell? ⟨b,o+k * 9+8,none⟩ = some (.int .i64 xs[k].seq):=by rw [Nat.add_assoc];exact hc 8 _ rfl
   clear hc
   have hwk:=rM (f:=Placed.wt) hlt
   have PU:(Placed.wt xs[k]:Int)≤1048576:=by have:=HL.out;omega
   clear hwk
   go_wp2_with (go_at_call 45;refine (alp xs[k] _ _ _ hr PU).mono ?_;rintro e w2 ⟨cs2,G2,rfl,hO2,hb2⟩
                have hR2:=hO2.rd
                obtain ⟨mZ,ng,DX,oL,oM,FC,jG,jH,wu,hck,hG2,Ci,wR,EM,EN,Cj,yU,pF,OW,Zt⟩:=kE hR2
                subst hck
                have hf2:=hf.keep (hb2.block _ hf.lt)
                obtain ⟨u0,hu0⟩:=hf2.cell (i:=k * 9) (by omega);have aeV:=hf2.frozen (k * 9)
                obtain ⟨u1,hu1⟩:=hf2.cell (i:=k * 9+1) (by omega);have hfz1:=hf2.frozen (k * 9+1)
                obtain ⟨u2,hu2⟩:=hf2.cell (i:=k * 9+2) (by omega);have aix:=hf2.frozen (k * 9+2)
                obtain ⟨u3,hu3⟩:=hf2.cell (i:=k * 9+3) (by omega);have hfz3:=hf2.frozen (k * 9+3)
                obtain ⟨u4,Td⟩:=hf2.cell (i:=k * 9+4) (by omega);have hfz4:=hf2.frozen (k * 9+4)
                obtain ⟨u5,hu5⟩:=hf2.cell (i:=k * 9+5) (by omega);have hfz5:=hf2.frozen (k * 9+5)
                obtain ⟨u6,Ze⟩:=hf2.cell (i:=k * 9+6) (by omega);have hfz6:=hf2.frozen (k * 9+6)
                obtain ⟨u7,WL⟩:=hf2.cell (i:=k * 9+7) (by omega);have hfz7:=hf2.frozen (k * 9+7)
                obtain ⟨u8,Ub⟩:=hf2.cell (i:=k * 9+8) (by omega);have hfz8:=hf2.frozen (k * 9+8))
   have hF:=(((((((((hf2.gU (o:=k * 9) auz (by omega) (.string xs[k].aS.name)).gU (o:=k * 9+1) at7 (by omega) (.slice mZ xs[k].aS.labels.length ng)).gU (o:=k * 9+2) at7 (by omega) (.int .i64 xs[k].aS.cpu)).gU (o:=k * 9+3) at7 (by omega) (.int .i64 xs[k].aS.mem)).gU (o:=k * 9+4) at7 (by omega) (.int .i64 xs[k].aS.rank)).gU (o:=k * 9+5) at7 (by omega) (.slice oL xs[k].aS.needs.length oM)).gU (o:=k * 9+6) at7 (by omega) (.slice jG xs[k].aS.tolerances.length jH)).gU (o:=k * 9+7) at7 (by omega) (.string xs[k].on)).gU (o:=k * 9+8) at7 (by omega) (.int .i64 xs[k].seq))
   have hO3:=hO.ext hb2
   replace hO3:=hO3.setCell (p:=⟨w.heap.size,k * 9,none⟩) (Nat.lt_succ_self _) (.string xs[k].aS.name)
   replace hO2:=hO2.setCell (p:=⟨w.heap.size,k * 9,none⟩) hf.lt (.string xs[k].aS.name)
   replace hO3:=hO3.setCell (p:=⟨w.heap.size,k * 9+1,none⟩) (Nat.lt_succ_self _) (.slice mZ xs[k].aS.labels.length ng)
   replace hO2:=hO2.setCell (p:=⟨w.heap.size,k * 9+1,none⟩) hf.lt (.slice mZ xs[k].aS.labels.length ng)
   replace hO3:=hO3.setCell (p:=⟨w.heap.size,k * 9+2,none⟩) (Nat.lt_succ_self _) (.int .i64 xs[k].aS.cpu)
   replace hO2:=hO2.setCell (p:=⟨w.heap.size,k * 9+2,none⟩) hf.lt (.int .i64 xs[k].aS.cpu)
   replace hO3:=hO3.setCell (p:=⟨w.heap.size,k * 9+3,none⟩) (Nat.lt_succ_self _) (.int .i64 xs[k].aS.mem)
   replace hO2:=hO2.setCell (p:=⟨w.heap.size,k * 9+3,none⟩) hf.lt (.int .i64 xs[k].aS.mem)
   replace hO3:=hO3.setCell (p:=⟨w.heap.size,k * 9+4,none⟩) (Nat.lt_succ_self _) (.int .i64 xs[k].aS.rank)
   replace hO2:=hO2.setCell (p:=⟨w.heap.size,k * 9+4,none⟩) hf.lt (.int .i64 xs[k].aS.rank)
   replace hO3:=hO3.setCell (p:=⟨w.heap.size,k * 9+5,none⟩) (Nat.lt_succ_self _) (.slice oL xs[k].aS.needs.length oM)
   replace hO2:=hO2.setCell (p:=⟨w.heap.size,k * 9+5,none⟩) hf.lt (.slice oL xs[k].aS.needs.length oM)
   replace hO3:=hO3.setCell (p:=⟨w.heap.size,k * 9+6,none⟩) (Nat.lt_succ_self _) (.slice jG xs[k].aS.tolerances.length jH)
   replace hO2:=hO2.setCell (p:=⟨w.heap.size,k * 9+6,none⟩) hf.lt (.slice jG xs[k].aS.tolerances.length jH)
   replace hO3:=hO3.setCell (p:=⟨w.heap.size,k * 9+7,none⟩) (Nat.lt_succ_self _) (.string xs[k].on)
   replace hO2:=hO2.setCell (p:=⟨w.heap.size,k * 9+7,none⟩) hf.lt (.string xs[k].on)
   replace hO3:=hO3.setCell (p:=⟨w.heap.size,k * 9+8,none⟩) (Nat.lt_succ_self _) (.int .i64 xs[k].seq)
   replace hO2:=hO2.setCell (p:=⟨w.heap.size,k * 9+8,none⟩) hf.lt (.int .i64 xs[k].seq)
   have hP:=hO3.push (B':=wr.heap.size) (x:=xs[k]) hO2 hf.lt hO.lt
   rw [← List.take_succ_eq_append_getElem hlt] at hP
   (try simp only [List.append_assoc,List.cons_append,List.nil_append] at hF)
   exact ⟨⟨k+1,_,_,by omega,by go_num,hF,by show _ = _;(simp [hd.out]) <;> omega,hP,aC (aC (aC (aC (aC (aC (aC (aC (aC (ah hbl hb2) (Nat.le_refl _) _) (Nat.le_refl _) _) (Nat.le_refl _) _) (Nat.le_refl _) _) (Nat.le_refl _) _) (Nat.le_refl _) _) (Nat.le_refl _) _) (Nat.le_refl _) _) (Nat.le_refl _) _⟩,by simp [intOf];omega⟩
  ·exact Zabl
end Go.Proofs.YtogkjlcoadhpgaaGreat
