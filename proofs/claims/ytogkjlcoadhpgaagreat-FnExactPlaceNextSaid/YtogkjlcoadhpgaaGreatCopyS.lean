/- l22Copy, of the reference. No condition. -/
import Derived.Test.YtogkjlcoadhpgaaGreatCopyC
namespace Go.Proofs.YtogkjlcoadhpgaaGreat
open Go.ChangeShapes Go.WideShapes Go.ChangeAt Go.RowKit
set_option linter.unusedVariables false
set_option linter.unusedSimpArgs false
theorem afs {α:Type} [Dat α] {w:World} {B c i:Nat} {u:Value} {xs:List α} {ds:List Value} {F:List Nat} (h:aY w B xs ds F) (hF:∀y∈F,y < c):aY (w.setCell ⟨c,i,none⟩ u) B xs ds F :=
 h.keep (fun y hy=>Below.heap_setCell _ _ _ _ avg) aua
theorem OC {α:Type} [Dat α] {w:World} {B c i:Nat} {u:Value} {x:α} {cs:List Value} {F:List Nat} (h:Own w B x cs F) (hF:∀y∈F,y < c):Own (w.setCell ⟨c,i,none⟩ u) B x cs F :=
 h.keep (fun y hy=>Below.heap_setCell _ _ _ _ avg) aua
set_option maxRecDepth 100000 in
set_option maxHeartbeats 8000000 in
theorem l22Copy_room (x:aU) (cs:List Value) (F:List Nat) (w:World) (h:rd w x cs F) (hw:(x.wt:Int)≤1048576) :
 Calls Tryz.prog 13 #[.agg cs.toArray] w fun e w'=>∃cs F,e = .returned (.agg cs.toArray)∧Own w' w.heap.size x cs F∧Below w.heap.size w w'∧RoomC x w' cs:=by
 obtain ⟨hhl,hpl,HH,HP⟩:=adD x hw
 clear hw
 obtain ⟨bG,bD,fQ,dn,bW,jg,hck,qp,bQ,dM,hnext,aV,aP,aW⟩:=aO h
 subst hck
 clear qp h
 have S0:=Cc.new w [.slice bG x.hosts.length bD,.slice dn x.au.length bW,.int .i64 x.next,.int .i64 x.weights.pack,.int .i64 x.weights.spread,.int .i64 x.weights.soft] [.slice none 0 0,.slice none 0 0,.int .i64 0,.int .i64 0,.int .i64 0,.int .i64 0] [.slice none 0 0,.slice none 0 0,.int .i64 x.next,.int .i64 x.weights.pack,.int .i64 x.weights.spread,.int .i64 x.weights.soft] 33
 go_enter Tryz.func13,Tryz.ntmps13
 go_wp2_with fail
 go_loopw [4] (fun i wr=>∃(k:Nat) (ds:List Value) (F':List Nat) (v:Value),k≤x.hosts.length∧Hid (x.hosts.length = 0→v = .slice none 0 0)∧i = .int .i64 k∧wr.ownsRow (w.heap.size+1+1+1) 71 6 v k ds∧aY wr (w.heap.size+1+1+1) (x.hosts.take k) ds F'∧(∀g,v.ownBlock = some g→g∉F')∧Cc w wr [.slice bG x.hosts.length bD,.slice dn x.au.length bW,.int .i64 x.next,.int .i64 x.weights.pack,.int .i64 x.weights.spread,.int .i64 x.weights.soft] [.slice none 0 0,.slice none 0 0,.int .i64 0,.int .i64 0,.int .i64 0,.int .i64 0] [v,.slice none 0 0,.int .i64 x.next,.int .i64 x.weights.pack,.int .i64 x.weights.spread,.int .i64 x.weights.soft]∧w.heap.size+1+1+1≤wr.heap.size) (fun i _=>x.hosts.length - (intOf i).toNat)
 case atStart=>exact ⟨0,[],[],.slice none 0 0,Nat.zero_le _,Lib.hid (fun _=>rfl),rfl,⟨rfl,.inl ⟨rfl,rfl⟩⟩,aY.nil _ _,(fun g hg=>by simp),S0,by simp [World.setCell]⟩
 case round =>
  obtain ⟨k,ds,F',v,hk,HVN,rfl,hown,hO,hne,hS,hBr⟩:=hrel
  by_cases hlt:k < x.hosts.length
  ·obtain ⟨b,o,ck,Fk,rfl,o9,hbs,hr,hsub,hc⟩:=Sl.get (α:=Host) bQ hlt
   have hr0:=hr
   obtain ⟨dU,dV,Ba,kY,kZ,NR,hck,hF1,hname1,jr,IQ,IU,KD,yO⟩:=iy hr
   subst hck
   clear hF1 hr
   have q0:w.cell? ⟨b,o+k * 6,none⟩ = some (.string x.hosts[k].name):=by exact hc 0 _ rfl
   have p0:=q0
   replace q0:=((ay hS.below).1 b _ hbs).trans q0
   have q1:w.cell? ⟨b,o+k * 6+1,none⟩ = some (.slice dU x.hosts[k].labels.length dV):=by rw [Nat.add_assoc];exact hc 1 _ rfl
   have p1:=q1
   replace q1:=((ay hS.below).1 b _ hbs).trans q1
   have q2:w.cell? ⟨b,o+k * 6+2,none⟩ = some (.int .i64 x.hosts[k].cpu):=by rw [Nat.add_assoc];exact hc 2 _ rfl
   have p2:=q2
   replace q2:=((ay hS.below).1 b _ hbs).trans q2
   have q3:w.cell? ⟨b,o+k * 6+3,none⟩ = some (.int .i64 x.hosts[k].mem):=by rw [Nat.add_assoc];exact hc 3 _ rfl
   have p3:=q3
   replace q3:=((ay hS.below).1 b _ hbs).trans q3
   have q4:w.cell? ⟨b,o+k * 6+4,none⟩ = some (.int .i64 x.hosts[k].slots):=by rw [Nat.add_assoc];exact hc 4 _ rfl
   have p4:=q4
   replace q4:=((ay hS.below).1 b _ hbs).trans q4
   have q5:w.cell? ⟨b,o+k * 6+5,none⟩ = some (.slice kY x.hosts[k].aT.length kZ):=by rw [Nat.add_assoc];exact hc 5 _ rfl
   have p5:=q5
   replace q5:=((ay hS.below).1 b _ hbs).trans q5
   obtain ⟨hll,htl⟩:=HH.out x.hosts[k] (List.getElem_mem hlt)
   obtain ⟨Av,cv,hv2⟩:=mY hown
   subst hv2
   have SD:=(hS.ext (aj _)).ext (aA (aj wr))
   have HBX:True:=trivial
   have hbd:Below wr.heap.size wr wr.drew:=aA (aj _)
   have Zl:=mG hown hbd
   have hcd:=aY.ext hO hbd
   have hzd:=hbd.size
   have Y6:=Lib.hid (fun g hg=>(hown.lt g hg).2)
   have HLF:=Lib.hid hO.lt
   have hrd:=Dat.frame hr0 (fun b hb=>SD.below.block b (Dat.lt hr0 b hb)) SD.below.size
   have x0:(fun w'=>w'.cell? ⟨w.heap.size+1+1,0,none⟩ = some (.slice Av k cv)∧w'.cell? ⟨w.heap.size,0,none⟩ = some (.slice (some ⟨b,o,none⟩) x.hosts.length bD)∧w'.cell? ⟨b,o+k * 6,none⟩ = some (.string x.hosts[k].name)∧w'.cell? ⟨b,o+k * 6+1,none⟩ = some (.slice dU x.hosts[k].labels.length dV)∧w'.cell? ⟨b,o+k * 6+2,none⟩ = some (.int .i64 x.hosts[k].cpu)∧w'.cell? ⟨b,o+k * 6+3,none⟩ = some (.int .i64 x.hosts[k].mem)∧w'.cell? ⟨b,o+k * 6+4,none⟩ = some (.int .i64 x.hosts[k].slots)∧w'.cell? ⟨b,o+k * 6+5,none⟩ = some (.slice kY x.hosts[k].aT.length kZ)) wr.drew:=⟨SD.ob.cell (i:=0) (u:=.slice Av k cv) rfl,SD.box.cell (i:=0) (u:=.slice (some ⟨b,o,none⟩) x.hosts.length bD) rfl,((ay SD.below).1 b _ hbs).trans p0,((ay SD.below).1 b _ hbs).trans p1,((ay SD.below).1 b _ hbs).trans p2,((ay SD.below).1 b _ hbs).trans p3,((ay SD.below).1 b _ hbs).trans p4,((ay SD.below).1 b _ hbs).trans p5⟩
   have HNE:=Lib.hid hne
   have hbx0:=hS.box.cell (i:=0) (u:=.slice (some ⟨b,o,none⟩) x.hosts.length bD) rfl
   clear hS hown hO hne hbd
   go_wp2_with fail
   clear hbx0
   refine uq (fun w'=>w'.cell? ⟨w.heap.size+1+1,0,none⟩ = some (.slice Av k cv)∧w'.cell? ⟨w.heap.size,0,none⟩ = some (.slice (some ⟨b,o,none⟩) x.hosts.length bD)∧w'.cell? ⟨b,o+k * 6,none⟩ = some (.string x.hosts[k].name)∧w'.cell? ⟨b,o+k * 6+1,none⟩ = some (.slice dU x.hosts[k].labels.length dV)∧w'.cell? ⟨b,o+k * 6+2,none⟩ = some (.int .i64 x.hosts[k].cpu)∧w'.cell? ⟨b,o+k * 6+3,none⟩ = some (.int .i64 x.hosts[k].mem)∧w'.cell? ⟨b,o+k * 6+4,none⟩ = some (.int .i64 x.hosts[k].slots)∧w'.cell? ⟨b,o+k * 6+5,none⟩ = some (.slice kY x.hosts[k].aT.length kZ)) [0,1,2,3,4,5,6] [7,8,9] [10,11] (by kernel_rfl) (by kernel_rfl) (fun _ _ d _ _ h=>by cases d <;> exact h) x0 ?_
   clear x0
   generalize wr.drew = wd at *
   simp only [pick,List.getElem?_cons_succ,List.getElem?_cons_zero]
   iterate 7
    (apply dR
     case hy =>
      refine Or.inl ⟨rfl,fun wq hq=>?_⟩
      obtain ⟨y0,y1,y2,y3,y4,y5,y6,y7⟩:=hq
      go_simp
      try rfl
     simp only [Act.put,pz])
   refine fE ?_
   refine iK rfl (fun K hK=>?_)
   go_simp
   refine (alT x.hosts[k] _ _ _ hrd hll htl).mono ?_
   rintro e w10 ⟨alW,G10,rfl,Hr,fP⟩
   have hrh:=Hr.rd
   obtain ⟨dZ,eF,uU,uV,uX,Xq,hck,hGh,Dh,qZ,IW,IX,abq,Qc⟩:=iy hrh
   subst hck
   clear hrh hGh
   have BZ:=SD.ext fP
   have Cb:=trivial
   have x0:(fun w'=>w'.cell? ⟨w.heap.size+1+1,0,none⟩ = some (.slice Av k cv)∧w'.cell? ⟨w.heap.size,0,none⟩ = some (.slice (some ⟨b,o,none⟩) x.hosts.length bD)∧w'.cell? ⟨b,o+k * 6,none⟩ = some (.string x.hosts[k].name)∧w'.cell? ⟨b,o+k * 6+1,none⟩ = some (.slice dU x.hosts[k].labels.length dV)∧w'.cell? ⟨b,o+k * 6+2,none⟩ = some (.int .i64 x.hosts[k].cpu)∧w'.cell? ⟨b,o+k * 6+3,none⟩ = some (.int .i64 x.hosts[k].mem)∧w'.cell? ⟨b,o+k * 6+4,none⟩ = some (.int .i64 x.hosts[k].slots)∧w'.cell? ⟨b,o+k * 6+5,none⟩ = some (.slice kY x.hosts[k].aT.length kZ)) w10:=⟨BZ.ob.cell (i:=0) (u:=.slice Av k cv) rfl,BZ.box.cell (i:=0) (u:=.slice (some ⟨b,o,none⟩) x.hosts.length bD) rfl,((ay BZ.below).1 b _ hbs).trans p0,((ay BZ.below).1 b _ hbs).trans p1,((ay BZ.below).1 b _ hbs).trans p2,((ay BZ.below).1 b _ hbs).trans p3,((ay BZ.below).1 b _ hbs).trans p4,((ay BZ.below).1 b _ hbs).trans p5⟩
   refine hK _ _ x0 ?_
   try simp only [Act.put,pz]
   clear hK K
   clear x0
   refine iK rfl (fun K hK=>?_)
   go_simp
   have OB:=BZ.ext (ak (aj _) (.cells ([.string x.hosts[k].name,.slice dZ x.hosts[k].labels.length eF,.int .i64 x.hosts[k].cpu,.int .i64 x.hosts[k].mem,.int .i64 x.hosts[k].slots,.slice uV x.hosts[k].aT.length uX]:List Value).toArray 71))
   have J6:=trivial
   have x0:(fun w'=>w'.cell? ⟨w.heap.size+1+1,0,none⟩ = some (.slice Av k cv)∧w'.cell? ⟨w.heap.size,0,none⟩ = some (.slice (some ⟨b,o,none⟩) x.hosts.length bD)∧w'.cell? ⟨b,o+k * 6,none⟩ = some (.string x.hosts[k].name)∧w'.cell? ⟨b,o+k * 6+1,none⟩ = some (.slice dU x.hosts[k].labels.length dV)∧w'.cell? ⟨b,o+k * 6+2,none⟩ = some (.int .i64 x.hosts[k].cpu)∧w'.cell? ⟨b,o+k * 6+3,none⟩ = some (.int .i64 x.hosts[k].mem)∧w'.cell? ⟨b,o+k * 6+4,none⟩ = some (.int .i64 x.hosts[k].slots)∧w'.cell? ⟨b,o+k * 6+5,none⟩ = some (.slice kY x.hosts[k].aT.length kZ)) (w10.alloc (.cells ([.string x.hosts[k].name,.slice dZ x.hosts[k].labels.length eF,.int .i64 x.hosts[k].cpu,.int .i64 x.hosts[k].mem,.int .i64 x.hosts[k].slots,.slice uV x.hosts[k].aT.length uX]:List Value).toArray 71)):=⟨OB.ob.cell (i:=0) (u:=.slice Av k cv) rfl,OB.box.cell (i:=0) (u:=.slice (some ⟨b,o,none⟩) x.hosts.length bD) rfl,((ay OB.below).1 b _ hbs).trans p0,((ay OB.below).1 b _ hbs).trans p1,((ay OB.below).1 b _ hbs).trans p2,((ay OB.below).1 b _ hbs).trans p3,((ay OB.below).1 b _ hbs).trans p4,((ay OB.below).1 b _ hbs).trans p5⟩
   refine hK _ _ x0 ?_
   try simp only [Act.put,pz]
   clear hK K
   clear x0 OB J6
   have r10:=mG Zl fP
   have aek:=Lib.hid r10
   have acP:=Lib.hid (aY.ext hcd fP)
   have Si:=Lib.hid BZ
   have HHB:=Lib.hid Cb
   have ajv:=Lib.hid Hr
   have zO:wr.heap.size≤w10.heap.size:=Nat.le_trans hzd fP.size
   clear SD Zl hcd BZ Hr fP HBX Cb hrd
   refine iK rfl (fun K hK=>?_)
   refine Qb aeZ _ _ (by rfl) _ _ _ _ _ r10 (by rfl) [.string x.hosts[k].name,.slice dZ x.hosts[k].labels.length eF,.int .i64 x.hosts[k].cpu,.int .i64 x.hosts[k].mem,.int .i64 x.hosts[k].slots,.slice uV x.hosts[k].aT.length uX] aue (by rfl) aub (by omega) (by omega) (by omega) ?_
   intro v6 zu ug DV CO Uf
   obtain ⟨A7,c7,hv6⟩:=mY ug
   subst hv6
   have EW:=Si.out.grown DV (fun q hq=>by have:=(r10.lt q hq).1;omega)
   have Xr:=trivial
   have x0:(fun w'=>w'.cell? ⟨w.heap.size+1+1,0,none⟩ = some (.slice Av k cv)∧w'.cell? ⟨w.heap.size,0,none⟩ = some (.slice (some ⟨b,o,none⟩) x.hosts.length bD)∧w'.cell? ⟨b,o+k * 6,none⟩ = some (.string x.hosts[k].name)∧w'.cell? ⟨b,o+k * 6+1,none⟩ = some (.slice dU x.hosts[k].labels.length dV)∧w'.cell? ⟨b,o+k * 6+2,none⟩ = some (.int .i64 x.hosts[k].cpu)∧w'.cell? ⟨b,o+k * 6+3,none⟩ = some (.int .i64 x.hosts[k].mem)∧w'.cell? ⟨b,o+k * 6+4,none⟩ = some (.int .i64 x.hosts[k].slots)∧w'.cell? ⟨b,o+k * 6+5,none⟩ = some (.slice kY x.hosts[k].aT.length kZ)) zu:=⟨EW.ob.cell (i:=0) (u:=.slice Av k cv) rfl,EW.box.cell (i:=0) (u:=.slice (some ⟨b,o,none⟩) x.hosts.length bD) rfl,((ay EW.below).1 b _ hbs).trans p0,((ay EW.below).1 b _ hbs).trans p1,((ay EW.below).1 b _ hbs).trans p2,((ay EW.below).1 b _ hbs).trans p3,((ay EW.below).1 b _ hbs).trans p4,((ay EW.below).1 b _ hbs).trans p5⟩
   exact Zabo
  ·have hkl:k = x.hosts.length:=by omega
   subst hkl
   rw [List.take_length] at hO
   obtain ⟨Ah,ch,Gh,rfl,Zm⟩:=Own.of_rowR hown hO hne HVN.out
   obtain ⟨B4,hB4⟩:∃B4,wr.heap.size = B4:=⟨_,rfl⟩
   have Zn:=Lib.hid (show ∀y∈Gh,y < B4 from fun y hy=>hB4 ▸ Zm.lt y hy)
   have WV:B4≤wr.heap.size:=Nat.le_of_eq hB4.symm
   have hB34:w.heap.size+1+1+1≤B4:=by omega
   have hbx0:=hS.box.cell (i:=0) (u:=.slice bG x.hosts.length bD) rfl
   have hbx1:=hS.box.cell (i:=1) (u:=.slice dn x.au.length bW) rfl
   clear hB4 hown hO hne
   go_wp2_with fail
   clear hbx0 hbx1
   go_loopw [5] (fun i wr=>∃(k:Nat) (ds:List Value) (F':List Nat) (v:Value),k≤x.au.length∧Hid (x.au.length = 0→v = .slice none 0 0)∧i = .int .i64 k∧wr.ownsRow B4 78 9 v k ds∧aY wr B4 (x.au.take k) ds F'∧(∀g,v.ownBlock = some g→g∉F')∧Own wr (w.heap.size+1+1+1) (Roomy.mk x.hosts 71) [.slice Ah x.hosts.length ch] Gh∧Cc w wr [.slice bG x.hosts.length bD,.slice dn x.au.length bW,.int .i64 x.next,.int .i64 x.weights.pack,.int .i64 x.weights.spread,.int .i64 x.weights.soft] [.slice none 0 0,.slice none 0 0,.int .i64 0,.int .i64 0,.int .i64 0,.int .i64 0] [.slice Ah x.hosts.length ch,v,.int .i64 x.next,.int .i64 x.weights.pack,.int .i64 x.weights.spread,.int .i64 x.weights.soft]∧B4≤wr.heap.size) (fun i _=>x.au.length - (intOf i).toNat)
   case atStart=>exact ⟨0,[],[],.slice none 0 0,Nat.zero_le _,Lib.hid (fun _=>rfl),rfl,⟨rfl,.inl ⟨rfl,rfl⟩⟩,aY.nil _ _,(fun g hg=>by simp),Zm,hS,WV⟩
   case round =>
    clear hS Zm WV hBr
    obtain ⟨k,ds,F',v,hk,HVN,rfl,hown,hO,hne,Zm,hS,hBr⟩:=hrel
    by_cases hlt:k < x.au.length
    ·obtain ⟨b,o,ck,Fk,rfl,o9,hbs,hr,hsub,hc⟩:=Sl.get (α:=Placed) dM hlt
     obtain ⟨c1,c2,F1,F2,rfl,rfl,QS,_,_,_,_,rfl,rfl,⟨rfl,rfl,hon⟩,⟨rfl,rfl,hseq⟩⟩:=hr
     have abj:=QS
     obtain ⟨dU,dV,Ba,mJ,mM,Vb,fK,fM,Fz,hck,hF1,hname1,jr,IQ,IU,Sj,Bv,qc⟩:=dL QS
     subst hck
     clear hF1 QS
     have q0:w.cell? ⟨b,o+k * 9,none⟩ = some (.string x.au[k].aS.name):=by exact hc 0 _ rfl
     replace q0:=((ay hS.below).1 b _ hbs).trans q0
     have q1:w.cell? ⟨b,o+k * 9+1,none⟩ = some (.slice dU x.au[k].aS.labels.length dV):=by rw [Nat.add_assoc];exact hc 1 _ rfl
     replace q1:=((ay hS.below).1 b _ hbs).trans q1
     have q2:w.cell? ⟨b,o+k * 9+2,none⟩ = some (.int .i64 x.au[k].aS.cpu):=by rw [Nat.add_assoc];exact hc 2 _ rfl
     replace q2:=((ay hS.below).1 b _ hbs).trans q2
     have q3:w.cell? ⟨b,o+k * 9+3,none⟩ = some (.int .i64 x.au[k].aS.mem):=by rw [Nat.add_assoc];exact hc 3 _ rfl
     replace q3:=((ay hS.below).1 b _ hbs).trans q3
     have q4:w.cell? ⟨b,o+k * 9+4,none⟩ = some (.int .i64 x.au[k].aS.rank):=by rw [Nat.add_assoc];exact hc 4 _ rfl
     replace q4:=((ay hS.below).1 b _ hbs).trans q4
     have q5:w.cell? ⟨b,o+k * 9+5,none⟩ = some (.slice mJ x.au[k].aS.needs.length mM):=by rw [Nat.add_assoc];exact hc 5 _ rfl
     replace q5:=((ay hS.below).1 b _ hbs).trans q5
     have q6:w.cell? ⟨b,o+k * 9+6,none⟩ = some (.slice fK x.au[k].aS.tolerances.length fM):=by rw [Nat.add_assoc];exact hc 6 _ rfl
     replace q6:=((ay hS.below).1 b _ hbs).trans q6
     have q7:w.cell? ⟨b,o+k * 9+7,none⟩ = some (.string x.au[k].on):=by rw [Nat.add_assoc];exact hc 7 _ rfl
     replace q7:=((ay hS.below).1 b _ hbs).trans q7
     have q8:w.cell? ⟨b,o+k * 9+8,none⟩ = some (.int .i64 x.au[k].seq):=by rw [Nat.add_assoc];exact hc 8 _ rfl
     replace q8:=((ay hS.below).1 b _ hbs).trans q8
     clear hc
     obtain ⟨hl1,hl2,hl3,hvv⟩:=HP.out x.au[k] (List.getElem_mem hlt)
     have HVV:=Lib.hid hvv
     obtain ⟨Av,cv,hv2⟩:=mY hown
     subst hv2
     clear hvv
     have SD:=hS.ext (ak (aj _) (.cells ([.string x.au[k].aS.name,.slice dU x.au[k].aS.labels.length dV,.int .i64 x.au[k].aS.cpu,.int .i64 x.au[k].aS.mem,.int .i64 x.au[k].aS.rank,.slice mJ x.au[k].aS.needs.length mM,.slice fK x.au[k].aS.tolerances.length fM,.string x.au[k].on,.int .i64 x.au[k].seq]:List Value).toArray 78))
     have HBX:oG (wr.alloc (.cells ([.string x.au[k].aS.name,.slice dU x.au[k].aS.labels.length dV,.int .i64 x.au[k].aS.cpu,.int .i64 x.au[k].aS.mem,.int .i64 x.au[k].aS.rank,.slice mJ x.au[k].aS.needs.length mM,.slice fK x.au[k].aS.tolerances.length fM,.string x.au[k].on,.int .i64 x.au[k].seq]:List Value).toArray 78)) wr.heap.size [.string x.au[k].aS.name,.slice dU x.au[k].aS.labels.length dV,.int .i64 x.au[k].aS.cpu,.int .i64 x.au[k].aS.mem,.int .i64 x.au[k].aS.rank,.slice mJ x.au[k].aS.needs.length mM,.slice fK x.au[k].aS.tolerances.length fM,.string x.au[k].on,.int .i64 x.au[k].seq]:=oG.new wr [.string x.au[k].aS.name,.slice dU x.au[k].aS.labels.length dV,.int .i64 x.au[k].aS.cpu,.int .i64 x.au[k].aS.mem,.int .i64 x.au[k].aS.rank,.slice mJ x.au[k].aS.needs.length mM,.slice fK x.au[k].aS.tolerances.length fM,.string x.au[k].on,.int .i64 x.au[k].seq] 78
     have hbd:Below wr.heap.size wr (wr.alloc (.cells ([.string x.au[k].aS.name,.slice dU x.au[k].aS.labels.length dV,.int .i64 x.au[k].aS.cpu,.int .i64 x.au[k].aS.mem,.int .i64 x.au[k].aS.rank,.slice mJ x.au[k].aS.needs.length mM,.slice fK x.au[k].aS.tolerances.length fM,.string x.au[k].on,.int .i64 x.au[k].seq]:List Value).toArray 78)):=ak (aj _) _
     have Zl:=mG hown hbd
     have hcd:=aY.ext hO hbd
     have hod:=Own.ext Zm hbd
     have hzd:=hbd.size
     have Y6:=Lib.hid (fun g hg=>(hown.lt g hg).2)
     have HLF:=Lib.hid hO.lt
     have hrd:=Dat.frame abj (fun b hb=>SD.below.block b (Dat.lt abj b hb)) SD.below.size
     have HNE:=Lib.hid hne
     have hbx0:=hS.box.cell (i:=1) (u:=.slice (some ⟨b,o,none⟩) x.au.length bW) rfl
     have hlz:=hS.lt
     clear hS hown hO hne hbd Zm
     go_wp2_with fail
     clear hbx0
     refine (anU x.au[k].aS _ _ _ hrd hl1 hl2 hl3 HVV.out).mono ?_
     rintro e w10 ⟨alW,G10,rfl,Hr,fP⟩
     have hrh:=Hr.rd
     obtain ⟨dZ,eF,uU,jQ,jR,Et,dH,dI,qE,hck,hGh,Dh,qZ,IW,IX,I4,C9,oN⟩:=dL hrh
     subst hck
     clear hrh hGh
     have BZ:=SD.ext fP
     have Cb:=HBX.ext fP
     have r10:=mG Zl fP
     have zO:wr.heap.size < w10.heap.size:=Cb.lt
     have KH:=aY.ext hcd fP
     have ael:=Own.ext hod fP
     have k0:=Cb.cell (i:=0) (u:=.string x.au[k].aS.name) rfl
     have k1:=Cb.cell (i:=1) (u:=.slice dU x.au[k].aS.labels.length dV) rfl
     have k2:=Cb.cell (i:=2) (u:=.int .i64 x.au[k].aS.cpu) rfl
     have k3:=Cb.cell (i:=3) (u:=.int .i64 x.au[k].aS.mem) rfl
     have k4:=Cb.cell (i:=4) (u:=.int .i64 x.au[k].aS.rank) rfl
     have k5:=Cb.cell (i:=5) (u:=.slice mJ x.au[k].aS.needs.length mM) rfl
     have k6:=Cb.cell (i:=6) (u:=.slice fK x.au[k].aS.tolerances.length fM) rfl
     have k7:=Cb.cell (i:=7) (u:=.string x.au[k].on) rfl
     have k8:=Cb.cell (i:=8) (u:=.int .i64 x.au[k].seq) rfl
     have kf:=Cb.fz
     have ko:=BZ.ob.cell (i:=1) (u:=.slice Av k cv) rfl
     have hlp:Own w10 (wr.heap.size+1) x.au[k] [.string x.au[k].aS.name,.slice dZ x.au[k].aS.labels.length eF,.int .i64 x.au[k].aS.cpu,.int .i64 x.au[k].aS.mem,.int .i64 x.au[k].aS.rank,.slice jQ x.au[k].aS.needs.length jR,.slice dH x.au[k].aS.tolerances.length dI,.string x.au[k].on,.int .i64 x.au[k].seq] G10:=(Own.apg Hr hon hseq).mono (B':=wr.heap.size+1) (by simp)
     have T10:Cc w (((((((w10.setCell ⟨wr.heap.size,0,none⟩ (.string x.au[k].aS.name)).setCell ⟨wr.heap.size,1,none⟩ (.slice dZ x.au[k].aS.labels.length eF)).setCell ⟨wr.heap.size,2,none⟩ (.int .i64 x.au[k].aS.cpu)).setCell ⟨wr.heap.size,3,none⟩ (.int .i64 x.au[k].aS.mem)).setCell ⟨wr.heap.size,4,none⟩ (.int .i64 x.au[k].aS.rank)).setCell ⟨wr.heap.size,5,none⟩ (.slice jQ x.au[k].aS.needs.length jR)).setCell ⟨wr.heap.size,6,none⟩ (.slice dH x.au[k].aS.tolerances.length dI)) [.slice bG x.hosts.length bD,.slice (some ⟨b,o,none⟩) x.au.length bW,.int .i64 x.next,.int .i64 x.weights.pack,.int .i64 x.weights.spread,.int .i64 x.weights.soft] [.slice none 0 0,.slice none 0 0,.int .i64 0,.int .i64 0,.int .i64 0,.int .i64 0] [.slice Ah x.hosts.length ch,.slice Av k cv,.int .i64 x.next,.int .i64 x.weights.pack,.int .i64 x.weights.spread,.int .i64 x.weights.soft]:=(((((((BZ.far (c:=wr.heap.size) (by omega) 0 (.string x.au[k].aS.name)).far (c:=wr.heap.size) (by omega) 1 (.slice dZ x.au[k].aS.labels.length eF)).far (c:=wr.heap.size) (by omega) 2 (.int .i64 x.au[k].aS.cpu)).far (c:=wr.heap.size) (by omega) 3 (.int .i64 x.au[k].aS.mem)).far (c:=wr.heap.size) (by omega) 4 (.int .i64 x.au[k].aS.rank)).far (c:=wr.heap.size) (by omega) 5 (.slice jQ x.au[k].aS.needs.length jR)).far (c:=wr.heap.size) (by omega) 6 (.slice dH x.au[k].aS.tolerances.length dI))
     have HB11':=(((((((Cb.put 0 (.string x.au[k].aS.name)).put 1 (.slice dZ x.au[k].aS.labels.length eF)).put 2 (.int .i64 x.au[k].aS.cpu)).put 3 (.int .i64 x.au[k].aS.mem)).put 4 (.int .i64 x.au[k].aS.rank)).put 5 (.slice jQ x.au[k].aS.needs.length jR)).put 6 (.slice dH x.au[k].aS.tolerances.length dI))
     have r11':((((((((w10.setCell ⟨wr.heap.size,0,none⟩ (.string x.au[k].aS.name)).setCell ⟨wr.heap.size,1,none⟩ (.slice dZ x.au[k].aS.labels.length eF)).setCell ⟨wr.heap.size,2,none⟩ (.int .i64 x.au[k].aS.cpu)).setCell ⟨wr.heap.size,3,none⟩ (.int .i64 x.au[k].aS.mem)).setCell ⟨wr.heap.size,4,none⟩ (.int .i64 x.au[k].aS.rank)).setCell ⟨wr.heap.size,5,none⟩ (.slice jQ x.au[k].aS.needs.length jR)).setCell ⟨wr.heap.size,6,none⟩ (.slice dH x.au[k].aS.tolerances.length dI))).ownsRow B4 78 9 (.slice Av k cv) k ds:=(EJ (c:=wr.heap.size) (i:=6) (u:=.slice dH x.au[k].aS.tolerances.length dI) (EJ (c:=wr.heap.size) (i:=5) (u:=.slice jQ x.au[k].aS.needs.length jR) (EJ (c:=wr.heap.size) (i:=4) (u:=.int .i64 x.au[k].aS.rank) (EJ (c:=wr.heap.size) (i:=3) (u:=.int .i64 x.au[k].aS.mem) (EJ (c:=wr.heap.size) (i:=2) (u:=.int .i64 x.au[k].aS.cpu) (EJ (c:=wr.heap.size) (i:=1) (u:=.slice dZ x.au[k].aS.labels.length eF) (EJ (c:=wr.heap.size) (i:=0) (u:=.string x.au[k].aS.name) r10 (fun g hg=>by have:=Y6.out g hg;omega)) (fun g hg=>by have:=Y6.out g hg;omega)) (fun g hg=>by have:=Y6.out g hg;omega)) (fun g hg=>by have:=Y6.out g hg;omega)) (fun g hg=>by have:=Y6.out g hg;omega)) (fun g hg=>by have:=Y6.out g hg;omega)) (fun g hg=>by have:=Y6.out g hg;omega))
     have c11':aY ((((((((w10.setCell ⟨wr.heap.size,0,none⟩ (.string x.au[k].aS.name)).setCell ⟨wr.heap.size,1,none⟩ (.slice dZ x.au[k].aS.labels.length eF)).setCell ⟨wr.heap.size,2,none⟩ (.int .i64 x.au[k].aS.cpu)).setCell ⟨wr.heap.size,3,none⟩ (.int .i64 x.au[k].aS.mem)).setCell ⟨wr.heap.size,4,none⟩ (.int .i64 x.au[k].aS.rank)).setCell ⟨wr.heap.size,5,none⟩ (.slice jQ x.au[k].aS.needs.length jR)).setCell ⟨wr.heap.size,6,none⟩ (.slice dH x.au[k].aS.tolerances.length dI))) B4 (x.au.take k) ds F':=(afs (c:=wr.heap.size) (i:=6) (u:=.slice dH x.au[k].aS.tolerances.length dI) (afs (c:=wr.heap.size) (i:=5) (u:=.slice jQ x.au[k].aS.needs.length jR) (afs (c:=wr.heap.size) (i:=4) (u:=.int .i64 x.au[k].aS.rank) (afs (c:=wr.heap.size) (i:=3) (u:=.int .i64 x.au[k].aS.mem) (afs (c:=wr.heap.size) (i:=2) (u:=.int .i64 x.au[k].aS.cpu) (afs (c:=wr.heap.size) (i:=1) (u:=.slice dZ x.au[k].aS.labels.length eF) (afs (c:=wr.heap.size) (i:=0) (u:=.string x.au[k].aS.name) KH HLF.out) HLF.out) HLF.out) HLF.out) HLF.out) HLF.out) HLF.out)
     have o11':Own ((((((((w10.setCell ⟨wr.heap.size,0,none⟩ (.string x.au[k].aS.name)).setCell ⟨wr.heap.size,1,none⟩ (.slice dZ x.au[k].aS.labels.length eF)).setCell ⟨wr.heap.size,2,none⟩ (.int .i64 x.au[k].aS.cpu)).setCell ⟨wr.heap.size,3,none⟩ (.int .i64 x.au[k].aS.mem)).setCell ⟨wr.heap.size,4,none⟩ (.int .i64 x.au[k].aS.rank)).setCell ⟨wr.heap.size,5,none⟩ (.slice jQ x.au[k].aS.needs.length jR)).setCell ⟨wr.heap.size,6,none⟩ (.slice dH x.au[k].aS.tolerances.length dI))) (w.heap.size+1+1+1) (Roomy.mk x.hosts 71) [.slice Ah x.hosts.length ch] Gh:=(OC (c:=wr.heap.size) (i:=6) (u:=.slice dH x.au[k].aS.tolerances.length dI) (OC (c:=wr.heap.size) (i:=5) (u:=.slice jQ x.au[k].aS.needs.length jR) (OC (c:=wr.heap.size) (i:=4) (u:=.int .i64 x.au[k].aS.rank) (OC (c:=wr.heap.size) (i:=3) (u:=.int .i64 x.au[k].aS.mem) (OC (c:=wr.heap.size) (i:=2) (u:=.int .i64 x.au[k].aS.cpu) (OC (c:=wr.heap.size) (i:=1) (u:=.slice dZ x.au[k].aS.labels.length eF) (OC (c:=wr.heap.size) (i:=0) (u:=.string x.au[k].aS.name) ael (fun y hy=>by have:=Zn.out y hy;omega)) (fun y hy=>by have:=Zn.out y hy;omega)) (fun y hy=>by have:=Zn.out y hy;omega)) (fun y hy=>by have:=Zn.out y hy;omega)) (fun y hy=>by have:=Zn.out y hy;omega)) (fun y hy=>by have:=Zn.out y hy;omega)) (fun y hy=>by have:=Zn.out y hy;omega))
     have p11':Own ((((((((w10.setCell ⟨wr.heap.size,0,none⟩ (.string x.au[k].aS.name)).setCell ⟨wr.heap.size,1,none⟩ (.slice dZ x.au[k].aS.labels.length eF)).setCell ⟨wr.heap.size,2,none⟩ (.int .i64 x.au[k].aS.cpu)).setCell ⟨wr.heap.size,3,none⟩ (.int .i64 x.au[k].aS.mem)).setCell ⟨wr.heap.size,4,none⟩ (.int .i64 x.au[k].aS.rank)).setCell ⟨wr.heap.size,5,none⟩ (.slice jQ x.au[k].aS.needs.length jR)).setCell ⟨wr.heap.size,6,none⟩ (.slice dH x.au[k].aS.tolerances.length dI))) (wr.heap.size+1) x.au[k] [.string x.au[k].aS.name,.slice dZ x.au[k].aS.labels.length eF,.int .i64 x.au[k].aS.cpu,.int .i64 x.au[k].aS.mem,.int .i64 x.au[k].aS.rank,.slice jQ x.au[k].aS.needs.length jR,.slice dH x.au[k].aS.tolerances.length dI,.string x.au[k].on,.int .i64 x.au[k].seq] G10:=(Own.setCell (p:=⟨wr.heap.size,6,none⟩) (Own.setCell (p:=⟨wr.heap.size,5,none⟩) (Own.setCell (p:=⟨wr.heap.size,4,none⟩) (Own.setCell (p:=⟨wr.heap.size,3,none⟩) (Own.setCell (p:=⟨wr.heap.size,2,none⟩) (Own.setCell (p:=⟨wr.heap.size,1,none⟩) (Own.setCell (p:=⟨wr.heap.size,0,none⟩) hlp atX (.string x.au[k].aS.name)) atX (.slice dZ x.au[k].aS.labels.length eF)) atX (.int .i64 x.au[k].aS.cpu)) atX (.int .i64 x.au[k].aS.mem)) atX (.int .i64 x.au[k].aS.rank)) atX (.slice jQ x.au[k].aS.needs.length jR)) atX (.slice dH x.au[k].aS.tolerances.length dI))
     have z11':((((((((w10.setCell ⟨wr.heap.size,0,none⟩ (.string x.au[k].aS.name)).setCell ⟨wr.heap.size,1,none⟩ (.slice dZ x.au[k].aS.labels.length eF)).setCell ⟨wr.heap.size,2,none⟩ (.int .i64 x.au[k].aS.cpu)).setCell ⟨wr.heap.size,3,none⟩ (.int .i64 x.au[k].aS.mem)).setCell ⟨wr.heap.size,4,none⟩ (.int .i64 x.au[k].aS.rank)).setCell ⟨wr.heap.size,5,none⟩ (.slice jQ x.au[k].aS.needs.length jR)).setCell ⟨wr.heap.size,6,none⟩ (.slice dH x.au[k].aS.tolerances.length dI))).heap.size = w10.heap.size:=by simp [World.setCell]
     have HT:=Lib.hid T10
     have HB:=Lib.hid HB11'
     have aek:=Lib.hid r11'
     have acP:=Lib.hid c11'
     have HOHd:=Lib.hid o11'
     have ajv:=Lib.hid p11'
     have HZ:=Lib.hid z11'
     clear SD Zl hcd hod hrd HBX T10 HB11' r11' c11' o11' p11' z11' KH ael hlp BZ Cb r10 Hr fP
     dsimp only
     iterate 24 (first | go_step | skip)
     refine Qb YH _ _ (by rfl) (((((((w10.setCell ⟨wr.heap.size,0,none⟩ (.string x.au[k].aS.name)).setCell ⟨wr.heap.size,1,none⟩ (.slice dZ x.au[k].aS.labels.length eF)).setCell ⟨wr.heap.size,2,none⟩ (.int .i64 x.au[k].aS.cpu)).setCell ⟨wr.heap.size,3,none⟩ (.int .i64 x.au[k].aS.mem)).setCell ⟨wr.heap.size,4,none⟩ (.int .i64 x.au[k].aS.rank)).setCell ⟨wr.heap.size,5,none⟩ (.slice jQ x.au[k].aS.needs.length jR)).setCell ⟨wr.heap.size,6,none⟩ (.slice dH x.au[k].aS.tolerances.length dI)) _ _ _ _ aek.out (by rfl) [.string x.au[k].aS.name,.slice dZ x.au[k].aS.labels.length eF,.int .i64 x.au[k].aS.cpu,.int .i64 x.au[k].aS.mem,.int .i64 x.au[k].aS.rank,.slice jQ x.au[k].aS.needs.length jR,.slice dH x.au[k].aS.tolerances.length dI,.string x.au[k].on,.int .i64 x.au[k].seq] (by rw [HZ.out];rfl) (by rfl) aub (by omega) (by omega) (by have:=HZ.out;omega) ?_
     intro v4 zu ug DV CO Uf
     obtain ⟨A7,c7,hv6⟩:=mY ug
     subst hv6
     have EW:=HT.out.grown DV (fun q hq=>by have:=(aek.out.lt q hq).1;omega)
     have alX:=HOHd.out.aju DV Zn.out (fun q hq=>(aek.out.lt q hq).1)
     have kx:=EW.ob.cell (i:=1) (u:=.slice Av k cv) rfl
     have fx:=EW.ob.fz 1
     have lx:=EW.ob.lt
     clear k0 k1 k2 k3 k4 k5 k6 k7 k8 kf ko
     simp only [Act.put,pz]
     iterate 12 (first | go_step | skip)
     clear abj q0 q1 q2 q3 q4 q5 q6 q7 q8 kx fx
     iterate 12 (first | go_step | skip)
     exact Zabs
    ·have hkl:k = x.au.length:=by omega
     subst hkl
     rw [List.take_length] at hO
     obtain ⟨Ap,cp,Gp,rfl,hOP⟩:=Own.of_rowR hown hO hne HVN.out
     have HO:=Lib.hid (Own.alU Zm.list hOP.list (Nat.le_refl _) hB34 Zn.out hnext aV aP aW)
     have hbx1:=hS.box.cell (i:=1) (u:=.slice dn x.au.length bW) rfl
     have m0:=hS.ob.cell (i:=0) (u:=.slice Ah x.hosts.length ch) rfl
     have m1:=hS.ob.cell (i:=1) (u:=.slice Ap x.au.length cp) rfl
     have m2:=hS.ob.cell (i:=2) (u:=.int .i64 x.next) rfl
     have m3:=hS.ob.cell (i:=3) (u:=.int .i64 x.weights.pack) rfl
     have m4:=hS.ob.cell (i:=4) (u:=.int .i64 x.weights.spread) rfl
     have m5:=hS.ob.cell (i:=5) (u:=.int .i64 x.weights.soft) rfl
     have r0:=hS.rb.cell (i:=0) (u:=.slice none 0 0) rfl
     have r1:=hS.rb.cell (i:=1) (u:=.slice none 0 0) rfl
     have r2:=hS.rb.cell (i:=2) (u:=.int .i64 0) rfl
     have r3:=hS.rb.cell (i:=3) (u:=.int .i64 0) rfl
     have r4:=hS.rb.cell (i:=4) (u:=.int .i64 0) rfl
     have r5:=hS.rb.cell (i:=5) (u:=.int .i64 0) rfl
     have rl:=hS.rb.lt
     have rf:=hS.rb.fz
     have HS:=Lib.hid hS
     have HRH:=Lib.hid Zm
     have HRP:=Lib.hid hOP
     clear hS Zm hOP hown hO hne
     go_wp2_with fail
     try dsimp only
     iterate 60 (first | go_step | skip)
     refine bodyPost_ret (v:=.agg #[.slice Ah x.hosts.length ch,.slice Ap x.au.length cp,.int .i64 x.next,.int .i64 x.weights.pack,.int .i64 x.weights.spread,.int .i64 x.weights.soft]) (by simp [results,Tryz.results13,go_sem, *]) rfl ⟨[.slice Ah x.hosts.length ch,.slice Ap x.au.length cp,.int .i64 x.next,.int .i64 x.weights.pack,.int .i64 x.weights.spread,.int .i64 x.weights.soft],Gh++Gp,rfl,?_,?_,?_⟩
     ·refine Own.mono (B:=w.heap.size+1+1+1) ?_ (by omega)
      exact av6
     ·exact au5
     ·exact Zack
theorem BO (x:aU) (cs:List Value) (F:List Nat) (w:World) (h:rd w x cs F) (hw:(x.wt:Int)≤1048576) :
 Calls Tryz.prog 13 #[.agg cs.toArray] w fun e w'=>∃cs F,e = .returned (.agg cs.toArray)∧Own w' w.heap.size x cs F∧Below w.heap.size w w' :=
 (l22Copy_room x cs F w h hw).mono fun _ _ ⟨ds,G,h1,h2,h3,_⟩=>⟨ds,G,h1,h2,h3⟩
end Go.Proofs.YtogkjlcoadhpgaaGreat
