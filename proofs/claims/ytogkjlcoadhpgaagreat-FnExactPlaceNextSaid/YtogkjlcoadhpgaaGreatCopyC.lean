/- copyCluster, of the program. No condition. -/
import Derived.Test.YtogkjlcoadhpgaaGreatCopyH
import Derived.Test.YtogkjlcoadhpgaaGreatRegionIx
import Derived.Test.YtogkjlcoadhpgaaGreatSz
import Derived.Test.YtogkjlcoadhpgaaGreatMwTaint
namespace Go.Proofs.YtogkjlcoadhpgaaGreat
open Go.ChangeShapes Go.WideShapes Go.ChangeAt Go.RowKit
set_option linter.unusedVariables false
set_option linter.unusedSimpArgs false
structure Cc (w wk:World) (cs zs os:List Value):Prop where
 box:oG wk w.heap.size cs
 rb:oG wk (w.heap.size+1) zs
 ob:oG wk (w.heap.size+1+1) os
 below:Below w.heap.size w wk
section
variable {w wk w':World} {cs zs os:List Value}
theorem Cc.new (w:World) (cs zs os:List Value) (t:TypeId):Cc w (((w.alloc (.cells cs.toArray t)).alloc (.cells zs.toArray t)).alloc (.cells os.toArray t)) cs zs os :=
 have h:=(Cp.new w cs zs t t).ext (ak (aj _) (.cells os.toArray t))
 ⟨h.box,h.rb,(by have:=oG.new ((w.alloc (.cells cs.toArray t)).alloc (.cells zs.toArray t)) os t;rw [World.size_alloc,World.size_alloc] at this;exact this),h.below⟩
theorem Cc.ext (h:Cc w wk cs zs os) (hb:Below wk.heap.size wk w'):Cc w w' cs zs os:=⟨h.box.ext hb,h.rb.ext hb,h.ob.ext hb,ah h.below hb⟩
theorem Cc.put (h:Cc w wk cs zs os) (i:Nat) (u:Value):Cc w (wk.setCell ⟨w.heap.size+1+1,i,none⟩ u) cs zs (os.set i u):=⟨h.box.far (by omega) i u,h.rb.far (by omega) i u,h.ob.put i u,aC h.below atX u⟩
theorem Cc.far (h:Cc w wk cs zs os) {c:Nat} (hc:w.heap.size+1+1 < c) (i:Nat) (u:Value):Cc w (wk.setCell ⟨c,i,none⟩ u) cs zs os:=⟨h.box.far (by omega) i u,h.rb.far (by omega) i u,h.ob.far (by omega) i u,aC h.below atX u⟩
theorem Cc.lt (h:Cc w wk cs zs os):w.heap.size+1+1 < wk.heap.size:=h.ob.lt
theorem Cc.grown {row:Option Nat} (h:Cc w wk cs zs os) (hg:wk.grownBy w' row) (hr:∀q,row = some q→w.heap.size+1+1 < q):Cc w w' cs zs os :=
 ⟨h.box.keep (hg.block _ h.box.lt auq),h.rb.keep (hg.block _ h.rb.lt auq),h.ob.keep (hg.block _ h.ob.lt auq),
  ⟨hg.os.trans h.below.os,hg.tape.trans h.below.tape,hg.output.trans h.below.output,Nat.le_trans h.below.size hg.size,fun i hi=>(hg.block i avs auq).trans (h.below.block i hi)⟩⟩
end
theorem oG.grown {w w':World} {g:Nat} {cs:List Value} {row:Option Nat} (h:oG w g cs) (hg:w.grownBy w' row) (hr:∀q,row = some q→q≠g):oG w' g cs:=h.keep (hg.block _ h.lt (fun e=>hr g e.symm rfl))
theorem Own.aju {α:Type} [Dat α] {w w':World} {B B2:Nat} {x:α} {cs:List Value} {F:List Nat} {row:Option Nat} (h:Own w B x cs F) (hg:w.grownBy w' row) (hF:∀y∈F,y < B2) (hr:∀q,row = some q→B2≤q):Own w' B x cs F :=
 h.keep (fun y hy=>hg.block y (h.lt y hy) awM) hg.size
theorem Own.apg {w:World} {B:Nat} {p:nI} {nm:ByteArray} {n:Int} {ps:List Value} {G:List Nat} (h:Own w B p ps G) (h1:nm.size≤maxLen) (h2:I64 n):Own w B (⟨p,nm,n⟩:Placed) (ps++[.string nm,.int .i64 n]) G:=by
 refine Own.up (B':=B) (fun x:Placed=>(x.aS,x.on,x.seq)) ?_ (Nat.le_refl _)
 have h3:Own w (B+w.heap.size) (nm,n) ([.string nm]++[.int .i64 n]) []:=Own.cons (rdStr w nm (rV h1)) (Own.flat (jL w n h2))
 have h4:=Own.pair h h3 (by omega) (fun b hb=>by have:=h.lt b hb;omega)
 simpa using h4
theorem Own.alU {w:World} {B B3 B4:Nat} {H:List Host} {P:List Placed} {n p q f:Int} {Ah Ap:Option Addr} {ch cp:Nat} {Gh Gp:List Nat} (h:Own w B3 H [.slice Ah H.length ch] Gh) (k:Own w B4 P [.slice Ap P.length cp] Gp) (hB:B≤B3) (hB4:B3≤B4) (hG:∀y∈Gh,y < B4) (hn:I64 n) (hp:I64 p) (hq:I64 q) (hf:I64 f) :
 Own w B (⟨H,P,n,⟨p,q,f⟩⟩:aU) [.slice Ah H.length ch,.slice Ap P.length cp,.int .i64 n,.int .i64 p,.int .i64 q,.int .i64 f] (Gh++Gp):=by
 refine Own.up (B':=B3) (fun x:aU=>(x.hosts,x.au,x.next,x.weights)) ?_ hB
 have h5:Own w (B4+w.heap.size) (⟨p,q,f⟩:rZ) ([.int .i64 p]++([.int .i64 q]++[.int .i64 f])) []:=by
  refine Own.up (B':=B4+w.heap.size) (fun x:rZ=>(x.pack,x.spread,x.soft)) ?_ (Nat.le_refl _)
  exact Own.cons (jL w p hp) (Own.cons (jL w q hq) (Own.flat (jL w f hf)))
 have h6:=Own.cons (jL w n hn) h5
 have h7:=Own.pair h (Own.pair k h6 (by omega) (fun b hb=>by have:=k.lt b hb;omega)) hB4 hG
 simpa using h7
theorem apR:(Tryz.prog.info? 71).map (fun i=>(i.zero,i.size,i.bytes)) = some (some ((.agg #[.string ⟨#[]⟩,.slice none 0 0,.int .i64 0,.int .i64 0,.int .i64 0,.slice none 0 0])),6,88):=by kernel_rfl
theorem aeZ:DL Tryz.prog 29 71 ((.agg #[.string ⟨#[]⟩,.slice none 0 0,.int .i64 0,.int .i64 0,.int .i64 0,.slice none 0 0])) 6 88:=⟨Tryz.underlying29,apR,rfl,by omega⟩
theorem alV:(Tryz.prog.info? 78).map (fun i=>(i.zero,i.size,i.bytes)) = some (some ((.agg #[.string ⟨#[]⟩,.slice none 0 0,.int .i64 0,.int .i64 0,.int .i64 0,.slice none 0 0,.slice none 0 0,.string ⟨#[]⟩,.int .i64 0])),9,136):=by kernel_rfl
theorem YH:DL Tryz.prog 30 78 ((.agg #[.string ⟨#[]⟩,.slice none 0 0,.int .i64 0,.int .i64 0,.int .i64 0,.slice none 0 0,.slice none 0 0,.string ⟨#[]⟩,.int .i64 0])) 9 136:=⟨Tryz.underlying30,alV,rfl,by omega⟩
theorem adD (x:aU) (hw:(x.wt:Int)≤1048576):(x.hosts.length:Int)≤1048576∧(x.au.length:Int)≤1048576∧Hid (∀h∈x.hosts,(h.labels.length:Int)≤1048576∧(h.aT.length:Int)≤1048576) ∧
 Hid (∀p∈x.au,(p.aS.labels.length:Int)≤1048576∧(p.aS.needs.length:Int)≤1048576∧(p.aS.tolerances.length:Int)≤1048576∧∀y∈p.aS.needs,(y.values.length:Int)≤1048576):=by
 have hwx:x.wt = kL Host.wt x.hosts+kL Placed.wt x.au:=rfl
 have h1:=gJ Host.wt x.hosts
 have h2:=gJ Placed.wt x.au
 refine ⟨by omega,by omega,Lib.hid fun h hh=>?_,Lib.hid fun p hp=>?_⟩
 ·have h3:h.name.size+kL Label.wt h.labels+kL iU.wt h.aT≤kL Host.wt x.hosts:=Bq (f:=Host.wt) hh
  have h4:=gJ Label.wt h.labels
  have h5:=gJ iU.wt h.aT
  constructor <;> omega
 ·have h3:(p.aS.name.size+kL Label.wt p.aS.labels+kL Need.wt p.aS.needs+kL bH.wt p.aS.tolerances)+p.on.size≤kL Placed.wt x.au:=Bq (f:=Placed.wt) hp
  have h4:=gJ Label.wt p.aS.labels
  have h5:=gJ Need.wt p.aS.needs
  have h6:=gJ bH.wt p.aS.tolerances
  refine ⟨by omega,by omega,by omega,fun y hy=>?_⟩
  have h7:y.key.size+kL ByteArray.size y.values≤kL Need.wt p.aS.needs:=Bq (f:=Need.wt) hy
  have h8:=gJ ByteArray.size y.values
  omega
set_option maxRecDepth 100000 in
set_option maxHeartbeats 8000000 in
theorem copyCluster_room (x:aU) (cs:List Value) (F:List Nat) (w:World) (h:rd w x cs F) (hw:(x.wt:Int)≤1048576) :
 Calls Tryz.prog 21 #[.agg cs.toArray] w fun e w'=>∃cs F,e = .returned (.agg cs.toArray)∧Own w' w.heap.size x cs F∧Below w.heap.size w w'∧RoomC x w' cs:=by
 obtain ⟨hhl,hpl,HH,HP⟩:=adD x hw
 clear hw
 obtain ⟨bG,bD,fQ,dn,bW,jg,hck,qp,bQ,dM,hnext,aV,aP,aW⟩:=aO h
 subst hck
 clear qp h
 have S0:=Cc.new w [.slice bG x.hosts.length bD,.slice dn x.au.length bW,.int .i64 x.next,.int .i64 x.weights.pack,.int .i64 x.weights.spread,.int .i64 x.weights.soft] [.slice none 0 0,.slice none 0 0,.int .i64 0,.int .i64 0,.int .i64 0,.int .i64 0] [.slice none 0 0,.slice none 0 0,.int .i64 x.next,.int .i64 x.weights.pack,.int .i64 x.weights.spread,.int .i64 x.weights.soft] 33
 go_enter Tryz.func21,Tryz.ntmps21
 go_wp2_with fail
 go_loopw [16] (fun i wr=>∃(k:Nat) (ds:List Value) (F':List Nat) (v:Value),k≤x.hosts.length∧Hid (x.hosts.length = 0→v = .slice none 0 0)∧i = .int .i64 k∧wr.ownsRow (w.heap.size+1+1+1) 71 6 v k ds∧aY wr (w.heap.size+1+1+1) (x.hosts.take k) ds F'∧(∀g,v.ownBlock = some g→g∉F')∧Cc w wr [.slice bG x.hosts.length bD,.slice dn x.au.length bW,.int .i64 x.next,.int .i64 x.weights.pack,.int .i64 x.weights.spread,.int .i64 x.weights.soft] [.slice none 0 0,.slice none 0 0,.int .i64 0,.int .i64 0,.int .i64 0,.int .i64 0] [v,.slice none 0 0,.int .i64 x.next,.int .i64 x.weights.pack,.int .i64 x.weights.spread,.int .i64 x.weights.soft]∧w.heap.size+1+1+1≤wr.heap.size) (fun i _=>x.hosts.length - (intOf i).toNat)
 case atStart=>exact ⟨0,[],[],.slice none 0 0,Nat.zero_le _,Lib.hid (fun _=>rfl),rfl,⟨rfl,.inl ⟨rfl,rfl⟩⟩,aY.nil _ _,(fun g hg=>by simp),S0,by simp [World.setCell]⟩
 case round =>
  obtain ⟨k,ds,F',v,hk,HVN,rfl,hown,hO,hne,hS,hBr⟩:=hrel
  by_cases hlt:k < x.hosts.length
  ·obtain ⟨b,o,ck,Fk,rfl,o9,hbs,hr,hsub,hc⟩:=Sl.get (α:=Host) bQ hlt
   have hr0:=hr
   obtain ⟨dU,dV,Ba,kY,kZ,NR,hck,hF1,hname1,jr,IQ,IU,KD,yO⟩:=iy hr
   subst hck
   clear hF1 hr
   have q0:w.cell? ⟨b,o+k * 6,none⟩ = some (.string x.hosts[k].name):=by exact hc 0 _ rfl
   replace q0:=((ay hS.below).1 b _ hbs).trans q0
   have q1:w.cell? ⟨b,o+k * 6+1,none⟩ = some (.slice dU x.hosts[k].labels.length dV):=by rw [Nat.add_assoc];exact hc 1 _ rfl
   replace q1:=((ay hS.below).1 b _ hbs).trans q1
   have q2:w.cell? ⟨b,o+k * 6+2,none⟩ = some (.int .i64 x.hosts[k].cpu):=by rw [Nat.add_assoc];exact hc 2 _ rfl
   replace q2:=((ay hS.below).1 b _ hbs).trans q2
   have q3:w.cell? ⟨b,o+k * 6+3,none⟩ = some (.int .i64 x.hosts[k].mem):=by rw [Nat.add_assoc];exact hc 3 _ rfl
   replace q3:=((ay hS.below).1 b _ hbs).trans q3
   have q4:w.cell? ⟨b,o+k * 6+4,none⟩ = some (.int .i64 x.hosts[k].slots):=by rw [Nat.add_assoc];exact hc 4 _ rfl
   replace q4:=((ay hS.below).1 b _ hbs).trans q4
   have q5:w.cell? ⟨b,o+k * 6+5,none⟩ = some (.slice kY x.hosts[k].aT.length kZ):=by rw [Nat.add_assoc];exact hc 5 _ rfl
   replace q5:=((ay hS.below).1 b _ hbs).trans q5
   clear hc
   obtain ⟨hll,htl⟩:=HH.out x.hosts[k] (List.getElem_mem hlt)
   obtain ⟨Av,cv,hv2⟩:=mY hown
   subst hv2
   have SD:=(hS.ext (ak (aj _) (.cells ([.string x.hosts[k].name,.slice dU x.hosts[k].labels.length dV,.int .i64 x.hosts[k].cpu,.int .i64 x.hosts[k].mem,.int .i64 x.hosts[k].slots,.slice kY x.hosts[k].aT.length kZ]:List Value).toArray 71))).ext (aA (aj (wr.alloc (.cells ([.string x.hosts[k].name,.slice dU x.hosts[k].labels.length dV,.int .i64 x.hosts[k].cpu,.int .i64 x.hosts[k].mem,.int .i64 x.hosts[k].slots,.slice kY x.hosts[k].aT.length kZ]:List Value).toArray 71))))
   have HBX:oG (wr.alloc (.cells ([.string x.hosts[k].name,.slice dU x.hosts[k].labels.length dV,.int .i64 x.hosts[k].cpu,.int .i64 x.hosts[k].mem,.int .i64 x.hosts[k].slots,.slice kY x.hosts[k].aT.length kZ]:List Value).toArray 71)).drew wr.heap.size [.string x.hosts[k].name,.slice dU x.hosts[k].labels.length dV,.int .i64 x.hosts[k].cpu,.int .i64 x.hosts[k].mem,.int .i64 x.hosts[k].slots,.slice kY x.hosts[k].aT.length kZ]:=(oG.new wr [.string x.hosts[k].name,.slice dU x.hosts[k].labels.length dV,.int .i64 x.hosts[k].cpu,.int .i64 x.hosts[k].mem,.int .i64 x.hosts[k].slots,.slice kY x.hosts[k].aT.length kZ] 71).ext (aA (aj _))
   have hbd:Below wr.heap.size wr (wr.alloc (.cells ([.string x.hosts[k].name,.slice dU x.hosts[k].labels.length dV,.int .i64 x.hosts[k].cpu,.int .i64 x.hosts[k].mem,.int .i64 x.hosts[k].slots,.slice kY x.hosts[k].aT.length kZ]:List Value).toArray 71)).drew:=aA (ak (aj _) _)
   have Zl:=mG hown hbd
   have hcd:=aY.ext hO hbd
   have hzd:=hbd.size
   have Y6:=Lib.hid (fun g hg=>(hown.lt g hg).2)
   have HLF:=Lib.hid hO.lt
   have hrd:=Dat.frame hr0 (fun b hb=>SD.below.block b (Dat.lt hr0 b hb)) SD.below.size
   have x0:(fun w'=>w'.cell? ⟨w.heap.size+1+1,0,none⟩ = some (.slice Av k cv)∧w'.cell? ⟨wr.heap.size,0,none⟩ = some (.string x.hosts[k].name)∧w'.cell? ⟨wr.heap.size,1,none⟩ = some (.slice dU x.hosts[k].labels.length dV)∧w'.cell? ⟨wr.heap.size,2,none⟩ = some (.int .i64 x.hosts[k].cpu)∧w'.cell? ⟨wr.heap.size,3,none⟩ = some (.int .i64 x.hosts[k].mem)∧w'.cell? ⟨wr.heap.size,4,none⟩ = some (.int .i64 x.hosts[k].slots)∧w'.cell? ⟨wr.heap.size,5,none⟩ = some (.slice kY x.hosts[k].aT.length kZ)) (wr.alloc (.cells ([.string x.hosts[k].name,.slice dU x.hosts[k].labels.length dV,.int .i64 x.hosts[k].cpu,.int .i64 x.hosts[k].mem,.int .i64 x.hosts[k].slots,.slice kY x.hosts[k].aT.length kZ]:List Value).toArray 71)).drew:=⟨SD.ob.cell (i:=0) (u:=.slice Av k cv) rfl,HBX.cell (i:=0) (u:=.string x.hosts[k].name) rfl,HBX.cell (i:=1) (u:=.slice dU x.hosts[k].labels.length dV) rfl,HBX.cell (i:=2) (u:=.int .i64 x.hosts[k].cpu) rfl,HBX.cell (i:=3) (u:=.int .i64 x.hosts[k].mem) rfl,HBX.cell (i:=4) (u:=.int .i64 x.hosts[k].slots) rfl,HBX.cell (i:=5) (u:=.slice kY x.hosts[k].aT.length kZ) rfl⟩
   have HNE:=Lib.hid hne
   clear hS hown hO hne hbd
   go_wp2_with fail
   refine uq (fun w'=>w'.cell? ⟨w.heap.size+1+1,0,none⟩ = some (.slice Av k cv)∧w'.cell? ⟨wr.heap.size,0,none⟩ = some (.string x.hosts[k].name)∧w'.cell? ⟨wr.heap.size,1,none⟩ = some (.slice dU x.hosts[k].labels.length dV)∧w'.cell? ⟨wr.heap.size,2,none⟩ = some (.int .i64 x.hosts[k].cpu)∧w'.cell? ⟨wr.heap.size,3,none⟩ = some (.int .i64 x.hosts[k].mem)∧w'.cell? ⟨wr.heap.size,4,none⟩ = some (.int .i64 x.hosts[k].slots)∧w'.cell? ⟨wr.heap.size,5,none⟩ = some (.slice kY x.hosts[k].aT.length kZ)) [0,1,2] [3,4,5] [6,7] (by kernel_rfl) (by kernel_rfl) (fun _ _ d _ _ h=>by cases d <;> exact h) x0 ?_
   clear x0
   generalize (wr.alloc (.cells ([.string x.hosts[k].name,.slice dU x.hosts[k].labels.length dV,.int .i64 x.hosts[k].cpu,.int .i64 x.hosts[k].mem,.int .i64 x.hosts[k].slots,.slice kY x.hosts[k].aT.length kZ]:List Value).toArray 71)).drew = wd at *
   simp only [pick,List.getElem?_cons_succ,List.getElem?_cons_zero]
   iterate 3
    (apply dR
     case hy =>
      refine Or.inl ⟨rfl,fun wq hq=>?_⟩
      obtain ⟨y0,y1,y2,y3,y4,y5,y6⟩:=hq
      go_simp
      try rfl
     simp only [Act.put,pz])
   refine fE ?_
   refine iK rfl (fun K hK=>?_)
   go_simp
   refine (ajs x.hosts[k] _ _ _ hrd hll htl).mono ?_
   rintro e w10 ⟨alW,G10,rfl,Hr,fP⟩
   have hrh:=Hr.rd
   obtain ⟨dZ,eF,uU,uV,uX,Xq,hck,hGh,Dh,qZ,IW,IX,abq,Qc⟩:=iy hrh
   subst hck
   clear hrh hGh
   have BZ:=SD.ext fP
   have Cb:=HBX.ext fP
   have x0:(fun w'=>w'.cell? ⟨w.heap.size+1+1,0,none⟩ = some (.slice Av k cv)∧w'.cell? ⟨wr.heap.size,0,none⟩ = some (.string x.hosts[k].name)∧w'.cell? ⟨wr.heap.size,1,none⟩ = some (.slice dU x.hosts[k].labels.length dV)∧w'.cell? ⟨wr.heap.size,2,none⟩ = some (.int .i64 x.hosts[k].cpu)∧w'.cell? ⟨wr.heap.size,3,none⟩ = some (.int .i64 x.hosts[k].mem)∧w'.cell? ⟨wr.heap.size,4,none⟩ = some (.int .i64 x.hosts[k].slots)∧w'.cell? ⟨wr.heap.size,5,none⟩ = some (.slice kY x.hosts[k].aT.length kZ)) w10:=⟨BZ.ob.cell (i:=0) (u:=.slice Av k cv) rfl,Cb.cell (i:=0) (u:=.string x.hosts[k].name) rfl,Cb.cell (i:=1) (u:=.slice dU x.hosts[k].labels.length dV) rfl,Cb.cell (i:=2) (u:=.int .i64 x.hosts[k].cpu) rfl,Cb.cell (i:=3) (u:=.int .i64 x.hosts[k].mem) rfl,Cb.cell (i:=4) (u:=.int .i64 x.hosts[k].slots) rfl,Cb.cell (i:=5) (u:=.slice kY x.hosts[k].aT.length kZ) rfl⟩
   refine hK _ _ x0 ?_
   try simp only [Act.put,pz]
   clear hK K
   clear x0
   refine iK rfl (fun K hK=>?_)
   go_simp
   have OB:=BZ.ext (ak (aj _) (.cells ([.string x.hosts[k].name,.slice dZ x.hosts[k].labels.length eF,.int .i64 x.hosts[k].cpu,.int .i64 x.hosts[k].mem,.int .i64 x.hosts[k].slots,.slice uV x.hosts[k].aT.length uX]:List Value).toArray 71))
   have J6:=oG.ext Cb (ak (aj _) (.cells ([.string x.hosts[k].name,.slice dZ x.hosts[k].labels.length eF,.int .i64 x.hosts[k].cpu,.int .i64 x.hosts[k].mem,.int .i64 x.hosts[k].slots,.slice uV x.hosts[k].aT.length uX]:List Value).toArray 71))
   have x0:(fun w'=>w'.cell? ⟨w.heap.size+1+1,0,none⟩ = some (.slice Av k cv)∧w'.cell? ⟨wr.heap.size,0,none⟩ = some (.string x.hosts[k].name)∧w'.cell? ⟨wr.heap.size,1,none⟩ = some (.slice dU x.hosts[k].labels.length dV)∧w'.cell? ⟨wr.heap.size,2,none⟩ = some (.int .i64 x.hosts[k].cpu)∧w'.cell? ⟨wr.heap.size,3,none⟩ = some (.int .i64 x.hosts[k].mem)∧w'.cell? ⟨wr.heap.size,4,none⟩ = some (.int .i64 x.hosts[k].slots)∧w'.cell? ⟨wr.heap.size,5,none⟩ = some (.slice kY x.hosts[k].aT.length kZ)) (w10.alloc (.cells ([.string x.hosts[k].name,.slice dZ x.hosts[k].labels.length eF,.int .i64 x.hosts[k].cpu,.int .i64 x.hosts[k].mem,.int .i64 x.hosts[k].slots,.slice uV x.hosts[k].aT.length uX]:List Value).toArray 71)):=⟨OB.ob.cell (i:=0) (u:=.slice Av k cv) rfl,J6.cell (i:=0) (u:=.string x.hosts[k].name) rfl,J6.cell (i:=1) (u:=.slice dU x.hosts[k].labels.length dV) rfl,J6.cell (i:=2) (u:=.int .i64 x.hosts[k].cpu) rfl,J6.cell (i:=3) (u:=.int .i64 x.hosts[k].mem) rfl,J6.cell (i:=4) (u:=.int .i64 x.hosts[k].slots) rfl,J6.cell (i:=5) (u:=.slice kY x.hosts[k].aT.length kZ) rfl⟩
   refine hK _ _ x0 ?_
   try simp only [Act.put,pz]
   clear hK K
   clear x0 OB J6
   have r10:=mG Zl fP
   have aek:=Lib.hid r10
   have acP:=Lib.hid (aY.ext hcd fP)
   have Si:=Lib.hid BZ
   have HHB:=Lib.hid Cb
   have ajv:=Lib.hid Hr
   have zO:wr.heap.size≤w10.heap.size:=Nat.le_trans hzd fP.size
   clear SD Zl hcd BZ Hr fP HBX Cb hrd
   refine iK rfl (fun K hK=>?_)
   refine Qb aeZ _ _ (by rfl) _ _ _ _ _ r10 (by rfl) [.string x.hosts[k].name,.slice dZ x.hosts[k].labels.length eF,.int .i64 x.hosts[k].cpu,.int .i64 x.hosts[k].mem,.int .i64 x.hosts[k].slots,.slice uV x.hosts[k].aT.length uX] aue (by rfl) aub (by omega) (by omega) (by omega) ?_
   intro v6 zu ug DV CO Uf
   obtain ⟨A7,c7,hv6⟩:=mY ug
   subst hv6
   have EW:=Si.out.grown DV (fun q hq=>by have:=(r10.lt q hq).1;omega)
   have Xr:=HHB.out.grown DV (fun q hq=>by have:=Y6.out q hq;omega)
   have x0:(fun w'=>w'.cell? ⟨w.heap.size+1+1,0,none⟩ = some (.slice Av k cv)∧w'.cell? ⟨wr.heap.size,0,none⟩ = some (.string x.hosts[k].name)∧w'.cell? ⟨wr.heap.size,1,none⟩ = some (.slice dU x.hosts[k].labels.length dV)∧w'.cell? ⟨wr.heap.size,2,none⟩ = some (.int .i64 x.hosts[k].cpu)∧w'.cell? ⟨wr.heap.size,3,none⟩ = some (.int .i64 x.hosts[k].mem)∧w'.cell? ⟨wr.heap.size,4,none⟩ = some (.int .i64 x.hosts[k].slots)∧w'.cell? ⟨wr.heap.size,5,none⟩ = some (.slice kY x.hosts[k].aT.length kZ)) zu:=⟨EW.ob.cell (i:=0) (u:=.slice Av k cv) rfl,Xr.cell (i:=0) (u:=.string x.hosts[k].name) rfl,Xr.cell (i:=1) (u:=.slice dU x.hosts[k].labels.length dV) rfl,Xr.cell (i:=2) (u:=.int .i64 x.hosts[k].cpu) rfl,Xr.cell (i:=3) (u:=.int .i64 x.hosts[k].mem) rfl,Xr.cell (i:=4) (u:=.int .i64 x.hosts[k].slots) rfl,Xr.cell (i:=5) (u:=.slice kY x.hosts[k].aT.length kZ) rfl⟩
   exact Zabo
  ·have hkl:k = x.hosts.length:=by omega
   subst hkl
   rw [List.take_length] at hO
   obtain ⟨Ah,ch,Gh,rfl,Zm⟩:=Own.of_rowR hown hO hne HVN.out
   obtain ⟨B4,hB4⟩:∃B4,wr.heap.size = B4:=⟨_,rfl⟩
   have Zn:=Lib.hid (show ∀y∈Gh,y < B4 from fun y hy=>hB4 ▸ Zm.lt y hy)
   have WV:B4≤wr.heap.size:=Nat.le_of_eq hB4.symm
   have hB34:w.heap.size+1+1+1≤B4:=by omega
   have hbx0:=hS.box.cell (i:=0) (u:=.slice bG x.hosts.length bD) rfl
   have hbx1:=hS.box.cell (i:=1) (u:=.slice dn x.au.length bW) rfl
   clear hB4 hown hO hne
   go_wp2_with fail
   clear hbx0 hbx1
   go_loopw [31] (fun i wr=>∃(k:Nat) (ds:List Value) (F':List Nat) (v:Value),k≤x.au.length∧Hid (x.au.length = 0→v = .slice none 0 0)∧i = .int .i64 k∧wr.ownsRow B4 78 9 v k ds∧aY wr B4 (x.au.take k) ds F'∧(∀g,v.ownBlock = some g→g∉F')∧Own wr (w.heap.size+1+1+1) (Roomy.mk x.hosts 71) [.slice Ah x.hosts.length ch] Gh∧Cc w wr [.slice bG x.hosts.length bD,.slice dn x.au.length bW,.int .i64 x.next,.int .i64 x.weights.pack,.int .i64 x.weights.spread,.int .i64 x.weights.soft] [.slice none 0 0,.slice none 0 0,.int .i64 0,.int .i64 0,.int .i64 0,.int .i64 0] [.slice Ah x.hosts.length ch,v,.int .i64 x.next,.int .i64 x.weights.pack,.int .i64 x.weights.spread,.int .i64 x.weights.soft]∧B4≤wr.heap.size) (fun i _=>x.au.length - (intOf i).toNat)
   case atStart=>exact ⟨0,[],[],.slice none 0 0,Nat.zero_le _,Lib.hid (fun _=>rfl),rfl,⟨rfl,.inl ⟨rfl,rfl⟩⟩,aY.nil _ _,(fun g hg=>by simp),Zm,hS,WV⟩
   case round =>
    clear hS Zm WV hBr
    obtain ⟨k,ds,F',v,hk,HVN,rfl,hown,hO,hne,Zm,hS,hBr⟩:=hrel
    by_cases hlt:k < x.au.length
    ·obtain ⟨b,o,ck,Fk,rfl,o9,hbs,hr,hsub,hc⟩:=Sl.get (α:=Placed) dM hlt
     obtain ⟨c1,c2,F1,F2,rfl,rfl,QS,_,_,_,_,rfl,rfl,⟨rfl,rfl,hon⟩,⟨rfl,rfl,hseq⟩⟩:=hr
     have abj:=QS
     obtain ⟨dU,dV,Ba,mJ,mM,Vb,fK,fM,Fz,hck,hF1,hname1,jr,IQ,IU,Sj,Bv,qc⟩:=dL QS
     subst hck
     clear hF1 QS
     have q0:w.cell? ⟨b,o+k * 9,none⟩ = some (.string x.au[k].aS.name):=by exact hc 0 _ rfl
     replace q0:=((ay hS.below).1 b _ hbs).trans q0
     have q1:w.cell? ⟨b,o+k * 9+1,none⟩ = some (.slice dU x.au[k].aS.labels.length dV):=by rw [Nat.add_assoc];exact hc 1 _ rfl
     replace q1:=((ay hS.below).1 b _ hbs).trans q1
     have q2:w.cell? ⟨b,o+k * 9+2,none⟩ = some (.int .i64 x.au[k].aS.cpu):=by rw [Nat.add_assoc];exact hc 2 _ rfl
     replace q2:=((ay hS.below).1 b _ hbs).trans q2
     have q3:w.cell? ⟨b,o+k * 9+3,none⟩ = some (.int .i64 x.au[k].aS.mem):=by rw [Nat.add_assoc];exact hc 3 _ rfl
     replace q3:=((ay hS.below).1 b _ hbs).trans q3
     have q4:w.cell? ⟨b,o+k * 9+4,none⟩ = some (.int .i64 x.au[k].aS.rank):=by rw [Nat.add_assoc];exact hc 4 _ rfl
     replace q4:=((ay hS.below).1 b _ hbs).trans q4
     have q5:w.cell? ⟨b,o+k * 9+5,none⟩ = some (.slice mJ x.au[k].aS.needs.length mM):=by rw [Nat.add_assoc];exact hc 5 _ rfl
     replace q5:=((ay hS.below).1 b _ hbs).trans q5
     have q6:w.cell? ⟨b,o+k * 9+6,none⟩ = some (.slice fK x.au[k].aS.tolerances.length fM):=by rw [Nat.add_assoc];exact hc 6 _ rfl
     replace q6:=((ay hS.below).1 b _ hbs).trans q6
     have q7:w.cell? ⟨b,o+k * 9+7,none⟩ = some (.string x.au[k].on):=by rw [Nat.add_assoc];exact hc 7 _ rfl
     replace q7:=((ay hS.below).1 b _ hbs).trans q7
     have q8:w.cell? ⟨b,o+k * 9+8,none⟩ = some (.int .i64 x.au[k].seq):=by rw [Nat.add_assoc];exact hc 8 _ rfl
     replace q8:=((ay hS.below).1 b _ hbs).trans q8
     clear hc
     obtain ⟨hl1,hl2,hl3,hvv⟩:=HP.out x.au[k] (List.getElem_mem hlt)
     have HVV:=Lib.hid hvv
     obtain ⟨Av,cv,hv2⟩:=mY hown
     subst hv2
     clear hvv
     have SD:=(hS.ext (ak (aj _) (.cells ([.string x.au[k].aS.name,.slice dU x.au[k].aS.labels.length dV,.int .i64 x.au[k].aS.cpu,.int .i64 x.au[k].aS.mem,.int .i64 x.au[k].aS.rank,.slice mJ x.au[k].aS.needs.length mM,.slice fK x.au[k].aS.tolerances.length fM,.string x.au[k].on,.int .i64 x.au[k].seq]:List Value).toArray 78))).ext (aA (aj (wr.alloc (.cells ([.string x.au[k].aS.name,.slice dU x.au[k].aS.labels.length dV,.int .i64 x.au[k].aS.cpu,.int .i64 x.au[k].aS.mem,.int .i64 x.au[k].aS.rank,.slice mJ x.au[k].aS.needs.length mM,.slice fK x.au[k].aS.tolerances.length fM,.string x.au[k].on,.int .i64 x.au[k].seq]:List Value).toArray 78))))
     have HBX:oG (wr.alloc (.cells ([.string x.au[k].aS.name,.slice dU x.au[k].aS.labels.length dV,.int .i64 x.au[k].aS.cpu,.int .i64 x.au[k].aS.mem,.int .i64 x.au[k].aS.rank,.slice mJ x.au[k].aS.needs.length mM,.slice fK x.au[k].aS.tolerances.length fM,.string x.au[k].on,.int .i64 x.au[k].seq]:List Value).toArray 78)).drew wr.heap.size [.string x.au[k].aS.name,.slice dU x.au[k].aS.labels.length dV,.int .i64 x.au[k].aS.cpu,.int .i64 x.au[k].aS.mem,.int .i64 x.au[k].aS.rank,.slice mJ x.au[k].aS.needs.length mM,.slice fK x.au[k].aS.tolerances.length fM,.string x.au[k].on,.int .i64 x.au[k].seq]:=(oG.new wr [.string x.au[k].aS.name,.slice dU x.au[k].aS.labels.length dV,.int .i64 x.au[k].aS.cpu,.int .i64 x.au[k].aS.mem,.int .i64 x.au[k].aS.rank,.slice mJ x.au[k].aS.needs.length mM,.slice fK x.au[k].aS.tolerances.length fM,.string x.au[k].on,.int .i64 x.au[k].seq] 78).ext (aA (aj _))
     have hbd:Below wr.heap.size wr (wr.alloc (.cells ([.string x.au[k].aS.name,.slice dU x.au[k].aS.labels.length dV,.int .i64 x.au[k].aS.cpu,.int .i64 x.au[k].aS.mem,.int .i64 x.au[k].aS.rank,.slice mJ x.au[k].aS.needs.length mM,.slice fK x.au[k].aS.tolerances.length fM,.string x.au[k].on,.int .i64 x.au[k].seq]:List Value).toArray 78)).drew:=aA (ak (aj _) _)
     have Zl:=mG hown hbd
     have hcd:=aY.ext hO hbd
     have hod:=Own.ext Zm hbd
     have hzd:=hbd.size
     have Y6:=Lib.hid (fun g hg=>(hown.lt g hg).2)
     have HLF:=Lib.hid hO.lt
     have hrd:=Dat.frame abj (fun b hb=>SD.below.block b (Dat.lt abj b hb)) SD.below.size
     have x0:(fun w'=>w'.cell? ⟨w.heap.size+1+1,1,none⟩ = some (.slice Av k cv)∧w'.cell? ⟨wr.heap.size,0,none⟩ = some (.string x.au[k].aS.name)∧w'.cell? ⟨wr.heap.size,1,none⟩ = some (.slice dU x.au[k].aS.labels.length dV)∧w'.cell? ⟨wr.heap.size,2,none⟩ = some (.int .i64 x.au[k].aS.cpu)∧w'.cell? ⟨wr.heap.size,3,none⟩ = some (.int .i64 x.au[k].aS.mem)∧w'.cell? ⟨wr.heap.size,4,none⟩ = some (.int .i64 x.au[k].aS.rank)∧w'.cell? ⟨wr.heap.size,5,none⟩ = some (.slice mJ x.au[k].aS.needs.length mM)∧w'.cell? ⟨wr.heap.size,6,none⟩ = some (.slice fK x.au[k].aS.tolerances.length fM)∧w'.cell? ⟨wr.heap.size,7,none⟩ = some (.string x.au[k].on)∧w'.cell? ⟨wr.heap.size,8,none⟩ = some (.int .i64 x.au[k].seq)) (wr.alloc (.cells ([.string x.au[k].aS.name,.slice dU x.au[k].aS.labels.length dV,.int .i64 x.au[k].aS.cpu,.int .i64 x.au[k].aS.mem,.int .i64 x.au[k].aS.rank,.slice mJ x.au[k].aS.needs.length mM,.slice fK x.au[k].aS.tolerances.length fM,.string x.au[k].on,.int .i64 x.au[k].seq]:List Value).toArray 78)).drew:=⟨SD.ob.cell (i:=1) (u:=.slice Av k cv) rfl,HBX.cell (i:=0) (u:=.string x.au[k].aS.name) rfl,HBX.cell (i:=1) (u:=.slice dU x.au[k].aS.labels.length dV) rfl,HBX.cell (i:=2) (u:=.int .i64 x.au[k].aS.cpu) rfl,HBX.cell (i:=3) (u:=.int .i64 x.au[k].aS.mem) rfl,HBX.cell (i:=4) (u:=.int .i64 x.au[k].aS.rank) rfl,HBX.cell (i:=5) (u:=.slice mJ x.au[k].aS.needs.length mM) rfl,HBX.cell (i:=6) (u:=.slice fK x.au[k].aS.tolerances.length fM) rfl,HBX.cell (i:=7) (u:=.string x.au[k].on) rfl,HBX.cell (i:=8) (u:=.int .i64 x.au[k].seq) rfl⟩
     have HNE:=Lib.hid hne
     clear hS hown hO hne hbd Zm
     go_wp2_with fail
     refine uq (fun w'=>w'.cell? ⟨w.heap.size+1+1,1,none⟩ = some (.slice Av k cv)∧w'.cell? ⟨wr.heap.size,0,none⟩ = some (.string x.au[k].aS.name)∧w'.cell? ⟨wr.heap.size,1,none⟩ = some (.slice dU x.au[k].aS.labels.length dV)∧w'.cell? ⟨wr.heap.size,2,none⟩ = some (.int .i64 x.au[k].aS.cpu)∧w'.cell? ⟨wr.heap.size,3,none⟩ = some (.int .i64 x.au[k].aS.mem)∧w'.cell? ⟨wr.heap.size,4,none⟩ = some (.int .i64 x.au[k].aS.rank)∧w'.cell? ⟨wr.heap.size,5,none⟩ = some (.slice mJ x.au[k].aS.needs.length mM)∧w'.cell? ⟨wr.heap.size,6,none⟩ = some (.slice fK x.au[k].aS.tolerances.length fM)∧w'.cell? ⟨wr.heap.size,7,none⟩ = some (.string x.au[k].on)∧w'.cell? ⟨wr.heap.size,8,none⟩ = some (.int .i64 x.au[k].seq)) [0,1,2,3,5,6,7,8] [4,9,10,11] [12,13] (by kernel_rfl) (by kernel_rfl) (fun _ _ d _ _ h=>by cases d <;> exact h) x0 ?_
     clear x0
     generalize (wr.alloc (.cells ([.string x.au[k].aS.name,.slice dU x.au[k].aS.labels.length dV,.int .i64 x.au[k].aS.cpu,.int .i64 x.au[k].aS.mem,.int .i64 x.au[k].aS.rank,.slice mJ x.au[k].aS.needs.length mM,.slice fK x.au[k].aS.tolerances.length fM,.string x.au[k].on,.int .i64 x.au[k].seq]:List Value).toArray 78)).drew = wd at *
     simp only [pick,List.getElem?_cons_succ,List.getElem?_cons_zero]
     iterate 8
      (apply dR
       case hy =>
        refine Or.inl ⟨rfl,fun wq hq=>?_⟩
        obtain ⟨y0,y1,y2,y3,y4,y5,y6,y7,y8,y9⟩:=hq
        go_simp
        try rfl
       simp only [Act.put,pz])
     refine fE ?_
     refine iK rfl (fun K hK=>?_)
     go_simp
     refine (alS x.au[k].aS _ _ _ hrd hl1 hl2 hl3 HVV.out).mono ?_
     rintro e w10 ⟨alW,G10,rfl,Hr,fP⟩
     have hrh:=Hr.rd
     obtain ⟨dZ,eF,uU,jQ,jR,Et,dH,dI,qE,hck,hGh,Dh,qZ,IW,IX,I4,C9,oN⟩:=dL hrh
     subst hck
     clear hrh hGh
     have BZ:=SD.ext fP
     have Cb:=HBX.ext fP
     have x0:(fun w'=>w'.cell? ⟨w.heap.size+1+1,1,none⟩ = some (.slice Av k cv)∧w'.cell? ⟨wr.heap.size,0,none⟩ = some (.string x.au[k].aS.name)∧w'.cell? ⟨wr.heap.size,1,none⟩ = some (.slice dU x.au[k].aS.labels.length dV)∧w'.cell? ⟨wr.heap.size,2,none⟩ = some (.int .i64 x.au[k].aS.cpu)∧w'.cell? ⟨wr.heap.size,3,none⟩ = some (.int .i64 x.au[k].aS.mem)∧w'.cell? ⟨wr.heap.size,4,none⟩ = some (.int .i64 x.au[k].aS.rank)∧w'.cell? ⟨wr.heap.size,5,none⟩ = some (.slice mJ x.au[k].aS.needs.length mM)∧w'.cell? ⟨wr.heap.size,6,none⟩ = some (.slice fK x.au[k].aS.tolerances.length fM)∧w'.cell? ⟨wr.heap.size,7,none⟩ = some (.string x.au[k].on)∧w'.cell? ⟨wr.heap.size,8,none⟩ = some (.int .i64 x.au[k].seq)) w10:=⟨BZ.ob.cell (i:=1) (u:=.slice Av k cv) rfl,Cb.cell (i:=0) (u:=.string x.au[k].aS.name) rfl,Cb.cell (i:=1) (u:=.slice dU x.au[k].aS.labels.length dV) rfl,Cb.cell (i:=2) (u:=.int .i64 x.au[k].aS.cpu) rfl,Cb.cell (i:=3) (u:=.int .i64 x.au[k].aS.mem) rfl,Cb.cell (i:=4) (u:=.int .i64 x.au[k].aS.rank) rfl,Cb.cell (i:=5) (u:=.slice mJ x.au[k].aS.needs.length mM) rfl,Cb.cell (i:=6) (u:=.slice fK x.au[k].aS.tolerances.length fM) rfl,Cb.cell (i:=7) (u:=.string x.au[k].on) rfl,Cb.cell (i:=8) (u:=.int .i64 x.au[k].seq) rfl⟩
     refine hK _ _ x0 ?_
     try simp only [Act.put,pz]
     clear hK K
     clear x0
     refine iK rfl (fun K hK=>?_)
     go_simp
     have x0:(fun w'=>w'.cell? ⟨w.heap.size+1+1,1,none⟩ = some (.slice Av k cv)∧w'.cell? ⟨wr.heap.size,0,none⟩ = some (.string x.au[k].aS.name)∧w'.cell? ⟨wr.heap.size,1,none⟩ = some (.slice dU x.au[k].aS.labels.length dV)∧w'.cell? ⟨wr.heap.size,2,none⟩ = some (.int .i64 x.au[k].aS.cpu)∧w'.cell? ⟨wr.heap.size,3,none⟩ = some (.int .i64 x.au[k].aS.mem)∧w'.cell? ⟨wr.heap.size,4,none⟩ = some (.int .i64 x.au[k].aS.rank)∧w'.cell? ⟨wr.heap.size,5,none⟩ = some (.slice mJ x.au[k].aS.needs.length mM)∧w'.cell? ⟨wr.heap.size,6,none⟩ = some (.slice fK x.au[k].aS.tolerances.length fM)∧w'.cell? ⟨wr.heap.size,7,none⟩ = some (.string x.au[k].on)∧w'.cell? ⟨wr.heap.size,8,none⟩ = some (.int .i64 x.au[k].seq)) w10:=⟨BZ.ob.cell (i:=1) (u:=.slice Av k cv) rfl,Cb.cell (i:=0) (u:=.string x.au[k].aS.name) rfl,Cb.cell (i:=1) (u:=.slice dU x.au[k].aS.labels.length dV) rfl,Cb.cell (i:=2) (u:=.int .i64 x.au[k].aS.cpu) rfl,Cb.cell (i:=3) (u:=.int .i64 x.au[k].aS.mem) rfl,Cb.cell (i:=4) (u:=.int .i64 x.au[k].aS.rank) rfl,Cb.cell (i:=5) (u:=.slice mJ x.au[k].aS.needs.length mM) rfl,Cb.cell (i:=6) (u:=.slice fK x.au[k].aS.tolerances.length fM) rfl,Cb.cell (i:=7) (u:=.string x.au[k].on) rfl,Cb.cell (i:=8) (u:=.int .i64 x.au[k].seq) rfl⟩
     refine hK _ _ x0 ?_
     try simp only [Act.put,pz]
     clear hK K
     clear x0
     refine iK rfl (fun K hK=>?_)
     go_simp
     have OB:=BZ.ext (ak (aj _) (.cells ([.string x.au[k].aS.name,.slice dZ x.au[k].aS.labels.length eF,.int .i64 x.au[k].aS.cpu,.int .i64 x.au[k].aS.mem,.int .i64 x.au[k].aS.rank,.slice jQ x.au[k].aS.needs.length jR,.slice dH x.au[k].aS.tolerances.length dI,.string x.au[k].on,.int .i64 x.au[k].seq]:List Value).toArray 78))
     have J6:=oG.ext Cb (ak (aj _) (.cells ([.string x.au[k].aS.name,.slice dZ x.au[k].aS.labels.length eF,.int .i64 x.au[k].aS.cpu,.int .i64 x.au[k].aS.mem,.int .i64 x.au[k].aS.rank,.slice jQ x.au[k].aS.needs.length jR,.slice dH x.au[k].aS.tolerances.length dI,.string x.au[k].on,.int .i64 x.au[k].seq]:List Value).toArray 78))
     have x0:(fun w'=>w'.cell? ⟨w.heap.size+1+1,1,none⟩ = some (.slice Av k cv)∧w'.cell? ⟨wr.heap.size,0,none⟩ = some (.string x.au[k].aS.name)∧w'.cell? ⟨wr.heap.size,1,none⟩ = some (.slice dU x.au[k].aS.labels.length dV)∧w'.cell? ⟨wr.heap.size,2,none⟩ = some (.int .i64 x.au[k].aS.cpu)∧w'.cell? ⟨wr.heap.size,3,none⟩ = some (.int .i64 x.au[k].aS.mem)∧w'.cell? ⟨wr.heap.size,4,none⟩ = some (.int .i64 x.au[k].aS.rank)∧w'.cell? ⟨wr.heap.size,5,none⟩ = some (.slice mJ x.au[k].aS.needs.length mM)∧w'.cell? ⟨wr.heap.size,6,none⟩ = some (.slice fK x.au[k].aS.tolerances.length fM)∧w'.cell? ⟨wr.heap.size,7,none⟩ = some (.string x.au[k].on)∧w'.cell? ⟨wr.heap.size,8,none⟩ = some (.int .i64 x.au[k].seq)) (w10.alloc (.cells ([.string x.au[k].aS.name,.slice dZ x.au[k].aS.labels.length eF,.int .i64 x.au[k].aS.cpu,.int .i64 x.au[k].aS.mem,.int .i64 x.au[k].aS.rank,.slice jQ x.au[k].aS.needs.length jR,.slice dH x.au[k].aS.tolerances.length dI,.string x.au[k].on,.int .i64 x.au[k].seq]:List Value).toArray 78)):=⟨OB.ob.cell (i:=1) (u:=.slice Av k cv) rfl,J6.cell (i:=0) (u:=.string x.au[k].aS.name) rfl,J6.cell (i:=1) (u:=.slice dU x.au[k].aS.labels.length dV) rfl,J6.cell (i:=2) (u:=.int .i64 x.au[k].aS.cpu) rfl,J6.cell (i:=3) (u:=.int .i64 x.au[k].aS.mem) rfl,J6.cell (i:=4) (u:=.int .i64 x.au[k].aS.rank) rfl,J6.cell (i:=5) (u:=.slice mJ x.au[k].aS.needs.length mM) rfl,J6.cell (i:=6) (u:=.slice fK x.au[k].aS.tolerances.length fM) rfl,J6.cell (i:=7) (u:=.string x.au[k].on) rfl,J6.cell (i:=8) (u:=.int .i64 x.au[k].seq) rfl⟩
     refine hK _ _ x0 ?_
     try simp only [Act.put,pz]
     clear hK K
     clear x0 OB J6
     have r10:=mG Zl fP
     have aek:=Lib.hid r10
     have acP:=Lib.hid (aY.ext hcd fP)
     have HOHd:=Lib.hid (Own.ext hod fP)
     have Si:=Lib.hid BZ
     have HHB:=Lib.hid Cb
     have ajv:=Lib.hid (show Own w10 _ x.au[k] [.string x.au[k].aS.name,.slice dZ x.au[k].aS.labels.length eF,.int .i64 x.au[k].aS.cpu,.int .i64 x.au[k].aS.mem,.int .i64 x.au[k].aS.rank,.slice jQ x.au[k].aS.needs.length jR,.slice dH x.au[k].aS.tolerances.length dI,.string x.au[k].on,.int .i64 x.au[k].seq] G10 from Own.apg Hr hon hseq)
     have zO:wr.heap.size≤w10.heap.size:=Nat.le_trans hzd fP.size
     clear SD Zl hcd hod BZ Hr fP HBX Cb hrd
     refine iK rfl (fun K hK=>?_)
     refine Qb YH _ _ (by rfl) _ _ _ _ _ r10 (by rfl) [.string x.au[k].aS.name,.slice dZ x.au[k].aS.labels.length eF,.int .i64 x.au[k].aS.cpu,.int .i64 x.au[k].aS.mem,.int .i64 x.au[k].aS.rank,.slice jQ x.au[k].aS.needs.length jR,.slice dH x.au[k].aS.tolerances.length dI,.string x.au[k].on,.int .i64 x.au[k].seq] aue (by rfl) aub (by omega) (by omega) (by omega) ?_
     intro v6 zu ug DV CO Uf
     obtain ⟨A7,c7,hv6⟩:=mY ug
     subst hv6
     have EW:=Si.out.grown DV (fun q hq=>by have:=(r10.lt q hq).1;omega)
     have Xr:=HHB.out.grown DV (fun q hq=>by have:=Y6.out q hq;omega)
     have alX:=HOHd.out.aju DV Zn.out (fun q hq=>(r10.lt q hq).1)
     have x0:(fun w'=>w'.cell? ⟨w.heap.size+1+1,1,none⟩ = some (.slice Av k cv)∧w'.cell? ⟨wr.heap.size,0,none⟩ = some (.string x.au[k].aS.name)∧w'.cell? ⟨wr.heap.size,1,none⟩ = some (.slice dU x.au[k].aS.labels.length dV)∧w'.cell? ⟨wr.heap.size,2,none⟩ = some (.int .i64 x.au[k].aS.cpu)∧w'.cell? ⟨wr.heap.size,3,none⟩ = some (.int .i64 x.au[k].aS.mem)∧w'.cell? ⟨wr.heap.size,4,none⟩ = some (.int .i64 x.au[k].aS.rank)∧w'.cell? ⟨wr.heap.size,5,none⟩ = some (.slice mJ x.au[k].aS.needs.length mM)∧w'.cell? ⟨wr.heap.size,6,none⟩ = some (.slice fK x.au[k].aS.tolerances.length fM)∧w'.cell? ⟨wr.heap.size,7,none⟩ = some (.string x.au[k].on)∧w'.cell? ⟨wr.heap.size,8,none⟩ = some (.int .i64 x.au[k].seq)) zu:=⟨EW.ob.cell (i:=1) (u:=.slice Av k cv) rfl,Xr.cell (i:=0) (u:=.string x.au[k].aS.name) rfl,Xr.cell (i:=1) (u:=.slice dU x.au[k].aS.labels.length dV) rfl,Xr.cell (i:=2) (u:=.int .i64 x.au[k].aS.cpu) rfl,Xr.cell (i:=3) (u:=.int .i64 x.au[k].aS.mem) rfl,Xr.cell (i:=4) (u:=.int .i64 x.au[k].aS.rank) rfl,Xr.cell (i:=5) (u:=.slice mJ x.au[k].aS.needs.length mM) rfl,Xr.cell (i:=6) (u:=.slice fK x.au[k].aS.tolerances.length fM) rfl,Xr.cell (i:=7) (u:=.string x.au[k].on) rfl,Xr.cell (i:=8) (u:=.int .i64 x.au[k].seq) rfl⟩
     have fx:=EW.ob.fz 1
     have lx:=EW.ob.lt
     refine hK _ _ x0 ?_
     try simp only [Act.put,pz]
     clear hK K
     replace x0:=x0.1
     refine yG ?_
     go_wp2
     exact Zabs
    ·have hkl:k = x.au.length:=by omega
     subst hkl
     rw [List.take_length] at hO
     obtain ⟨Ap,cp,Gp,rfl,hOP⟩:=Own.of_rowR hown hO hne HVN.out
     have HO:=Lib.hid (Own.alU Zm.list hOP.list (Nat.le_refl _) hB34 Zn.out hnext aV aP aW)
     have hbx1:=hS.box.cell (i:=1) (u:=.slice dn x.au.length bW) rfl
     have m0:=hS.ob.cell (i:=0) (u:=.slice Ah x.hosts.length ch) rfl
     have m1:=hS.ob.cell (i:=1) (u:=.slice Ap x.au.length cp) rfl
     have m2:=hS.ob.cell (i:=2) (u:=.int .i64 x.next) rfl
     have m3:=hS.ob.cell (i:=3) (u:=.int .i64 x.weights.pack) rfl
     have m4:=hS.ob.cell (i:=4) (u:=.int .i64 x.weights.spread) rfl
     have m5:=hS.ob.cell (i:=5) (u:=.int .i64 x.weights.soft) rfl
     have r0:=hS.rb.cell (i:=0) (u:=.slice none 0 0) rfl
     have r1:=hS.rb.cell (i:=1) (u:=.slice none 0 0) rfl
     have r2:=hS.rb.cell (i:=2) (u:=.int .i64 0) rfl
     have r3:=hS.rb.cell (i:=3) (u:=.int .i64 0) rfl
     have r4:=hS.rb.cell (i:=4) (u:=.int .i64 0) rfl
     have r5:=hS.rb.cell (i:=5) (u:=.int .i64 0) rfl
     have rl:=hS.rb.lt
     have rf:=hS.rb.fz
     have HS:=Lib.hid hS
     have HRH:=Lib.hid Zm
     have HRP:=Lib.hid hOP
     clear hS Zm hOP hown hO hne
     go_wp2_with fail
     try dsimp only
     iterate 60 (first | go_step | skip)
     refine bodyPost_ret (v:=.agg #[.slice Ah x.hosts.length ch,.slice Ap x.au.length cp,.int .i64 x.next,.int .i64 x.weights.pack,.int .i64 x.weights.spread,.int .i64 x.weights.soft]) (by simp [results,Tryz.results21,go_sem, *]) rfl ⟨[.slice Ah x.hosts.length ch,.slice Ap x.au.length cp,.int .i64 x.next,.int .i64 x.weights.pack,.int .i64 x.weights.spread,.int .i64 x.weights.soft],Gh++Gp,rfl,?_,?_,?_⟩
     ·refine Own.mono (B:=w.heap.size+1+1+1) ?_ (by omega)
      exact av6
     ·exact au5
     ·exact Zack
theorem uo (x:aU) (cs:List Value) (F:List Nat) (w:World) (h:rd w x cs F) (hw:(x.wt:Int)≤1048576) :
 Calls Tryz.prog 21 #[.agg cs.toArray] w fun e w'=>∃cs F,e = .returned (.agg cs.toArray)∧Own w' w.heap.size x cs F∧Below w.heap.size w w' :=
 (copyCluster_room x cs F w h hw).mono fun _ _ ⟨ds,G,h1,h2,h3,_⟩=>⟨ds,G,h1,h2,h3⟩
end Go.Proofs.YtogkjlcoadhpgaaGreat
