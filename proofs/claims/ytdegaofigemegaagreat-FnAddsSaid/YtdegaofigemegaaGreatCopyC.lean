/- copyCluster, of the program. No condition. -/
import Derived.Test.YtdegaofigemegaaGreatCopyH
import Derived.Test.YtdegaofigemegaaGreatUntolI
import Derived.Test.YtdegaofigemegaaGreatCmp2
namespace Go.Proofs.YtdegaofigemegaaGreat
open Go.ChangeShapes Go.WideShapes Go.ChangeAt Go.RowKit
set_option linter.unusedVariables false
set_option linter.unusedSimpArgs false
set_option maxHeartbeats 8000000
set_option maxRecDepth 100000
structure Cc (w wk:World) (cs zs os:List Value):Prop where
 box:oG wk w.heap.size cs
 rb:oG wk (w.heap.size+1) zs
 ob:oG wk (w.heap.size+1+1) os
 below:Below w.heap.size w wk
section
variable {w wk w':World} {cs zs os:List Value}
theorem Cc.new (w:World) (cs zs os:List Value) (t:TypeId):Cc w (((w.alloc (.cells cs.toArray t)).alloc (.cells zs.toArray t)).alloc (.cells os.toArray t)) cs zs os :=
 have h:=(Cp.new w cs zs t t).ext (ak (aj _) (.cells os.toArray t))
 ⟨h.box,h.rb,(by have:=oG.new ((w.alloc (.cells cs.toArray t)).alloc (.cells zs.toArray t)) os t;rw [World.size_alloc,World.size_alloc] at this;exact this),h.below⟩
theorem Cc.ext (h:Cc w wk cs zs os) (hb:Below wk.heap.size wk w'):Cc w w' cs zs os:=⟨h.box.ext hb,h.rb.ext hb,h.ob.ext hb,ah h.below hb⟩
theorem Cc.put (h:Cc w wk cs zs os) (i:Nat) (u:Value):Cc w (wk.setCell ⟨w.heap.size+1+1,i,none⟩ u) cs zs (os.set i u):=⟨h.box.bL J i u,h.rb.bL J i u,h.ob.put i u,aC h.below bx u⟩
theorem Cc.bL (h:Cc w wk cs zs os) {c:Nat} (hc:w.heap.size+1+1 < c) (i:Nat) (u:Value):Cc w (wk.setCell ⟨c,i,none⟩ u) cs zs os:=⟨h.box.bL J i u,h.rb.bL J i u,h.ob.bL J i u,aC h.below bx u⟩
theorem Cc.lt (h:Cc w wk cs zs os):w.heap.size+1+1 < wk.heap.size:=h.ob.lt
theorem Cc.grown {row:Option Nat} (h:Cc w wk cs zs os) (hg:wk.grownBy w' row) (hr:∀q,row = some q->w.heap.size+1+1 < q):Cc w w' cs zs os :=
 ⟨h.box.keep (hg.block _ h.box.lt Rn),h.rb.keep (hg.block _ h.rb.lt Rn),h.ob.keep (hg.block _ h.ob.lt Rn),
  ⟨hg.os.trans h.below.os,hg.tape.trans h.below.tape,hg.output.trans h.below.output,Nat.le_trans h.below.size hg.size,λi hi=>(hg.block i avs Rn).trans (h.below.block i hi)⟩⟩
end
theorem oG.grown {w w':World} {g:Nat} {cs:List Value} {row:Option Nat} (h:oG w g cs) (hg:w.grownBy w' row) (hr:∀q,row = some q->q≠g):oG w' g cs:=h.keep (hg.block _ h.lt (λe=>hr g e.symm rfl))
theorem ai.aju {α:Type} [ax α] {w w':World} {B B2:Nat} {x:α} {cs:List Value} {F:List Nat} {row:Option Nat} (h:ai w B x cs F) (hg:w.grownBy w' row) (hF:∀y∈F,y < B2) (hr:∀q,row = some q->B2<=q):ai w' B x cs F :=
 h.keep (λy hy=>hg.block y (h.lt y hy) awM) hg.size
theorem ai.apg {w:World} {B:Nat} {p:nI} {nm:ByteArray} {n:Int} {ps:List Value} {G:List Nat} (h:ai w B p ps G) (h1:nm.size<=maxLen) (h2:bt n):ai w B (⟨p,nm,n⟩:ag) (ps++[.string nm,.int .i64 n]) G:=by
 refine ai.up (B':=B) (λx:ag=>(x.aS,x.on,x.seq)) ?_ (Nat.le_refl _);have h3:ai w (B+w.heap.size) (nm,n) ([.string nm]++[.int .i64 n]) []:=ai.cons (rdStr w nm (rV h1)) (ai.flat (jL w n h2));have h4:=ai.pair h h3 J (λb hb=>by have:=h.lt b hb;omega);simpa using h4
theorem ai.alU {w:World} {B B3 B4:Nat} {H:List ba} {P:List ag} {n p q f:Int} {Ah Ap:Option Addr} {ch cp:Nat} {Gh Gp:List Nat} (h:ai w B3 H [.slice Ah H.length ch] Gh) (k:ai w B4 P [.slice Ap P.length cp] Gp) (hB:B<=B3) (sI:B3<=B4) (hG:∀y∈Gh,y < B4) (hn:bt n) (hp:bt p) (hq:bt q) (hf:bt f) :
 ai w B (⟨H,P,n,⟨p,q,f⟩⟩:aU) [.slice Ah H.length ch,.slice Ap P.length cp,.int .i64 n,.int .i64 p,.int .i64 q,.int .i64 f] (Gh++Gp):=by
 refine ai.up (B':=B3) (λx:aU=>(x.O,x.M,x.next,x.weights)) ?_ hB;have h5:ai w (B4+w.heap.size) (⟨p,q,f⟩:rZ) ([.int .i64 p]++([.int .i64 q]++[.int .i64 f])) []:=by refine ai.up (B':=B4+w.heap.size) (λx:rZ=>(x.pack,x.spread,x.soft)) ?_ (Nat.le_refl _);exact ai.cons (jL w p hp) (ai.cons (jL w q hq) (ai.flat (jL w f hf)))
 have h6:=ai.cons (jL w n hn) h5;have h7:=ai.pair h (ai.pair k h6 J (λb hb=>by have:=k.lt b hb;omega)) sI hG;simpa using h7
theorem apR:(Tryz.prog.info? 38).map (λi=>(i.zero,i.size,i.bytes)) = some (some ((.agg #[.string ⟨#[]⟩,.slice none 0 0,.int .i64 0,.int .i64 0,.int .i64 0,.slice none 0 0])),6,88):=by kernel_rfl
theorem Sc:DL Tryz.prog 24 38 ((.agg #[.string ⟨#[]⟩,.slice none 0 0,.int .i64 0,.int .i64 0,.int .i64 0,.slice none 0 0])) 6 88:=⟨Tryz.underlying24,apR,rfl,J⟩
theorem alV:(Tryz.prog.info? 47).map (λi=>(i.zero,i.size,i.bytes)) = some (some ((.agg #[.string ⟨#[]⟩,.slice none 0 0,.int .i64 0,.int .i64 0,.int .i64 0,.slice none 0 0,.slice none 0 0,.string ⟨#[]⟩,.int .i64 0])),9,136):=by kernel_rfl
theorem YH:DL Tryz.prog 25 47 ((.agg #[.string ⟨#[]⟩,.slice none 0 0,.int .i64 0,.int .i64 0,.int .i64 0,.slice none 0 0,.slice none 0 0,.string ⟨#[]⟩,.int .i64 0])) 9 136:=⟨Tryz.underlying25,alV,rfl,J⟩
theorem adD (x:aU) (hw:(x.wt:Int)<=1048576):(x.O.length:Int)<=1048576/\(x.M.length:Int)<=1048576/\Hid (∀h∈x.O,(h.labels.length:Int)<=1048576/\(h.aT.length:Int)<=1048576) /\
 Hid (∀p∈x.M,(p.aS.labels.length:Int)<=1048576/\(p.aS.af.length:Int)<=1048576/\(p.aS.ae.length:Int)<=1048576/\∀y∈p.aS.af,(y.values.length:Int)<=1048576):=by
 have i':x.wt = kL ba.wt x.O+kL ag.wt x.M:=rfl;have h1:=gJ ba.wt x.O;have h2:=gJ ag.wt x.M;refine ⟨J,J,I λh hh=>?_,I λp hp=>?_⟩
 ·have h3:h.name.size+kL ao.wt h.labels+kL iU.wt h.aT<=kL ba.wt x.O:=Bq (f:=ba.wt) hh;have h4:=gJ ao.wt h.labels;have h5:=gJ iU.wt h.aT;constructor <;> omega
 ·have h3:(p.aS.name.size+kL ao.wt p.aS.labels+kL aL.wt p.aS.af+kL bH.wt p.aS.ae)+p.on.size<=kL ag.wt x.M:=Bq (f:=ag.wt) hp;have h4:=gJ ao.wt p.aS.labels;have h5:=gJ aL.wt p.aS.af;have h6:=gJ bH.wt p.aS.ae;refine ⟨J,J,J,λy hy=>?_⟩;have h7:y.key.size+kL ByteArray.size y.values<=kL aL.wt p.aS.af:=Bq (f:=aL.wt) hy;have h8:=gJ ByteArray.size y.values;omega
theorem VW (x:aU) (cs:List Value) (F:List Nat) (w:World) (h:rd w x cs F) (hw:(x.wt:Int)<=1048576) :
 Calls Tryz.prog 16 #[.agg cs.toArray] w λe w'=>∃cs F,e = .returned (.agg cs.toArray)/\ai w' w.heap.size x cs F/\Below w.heap.size w w'/\Bl x w' cs:=by
 obtain ⟨Jd,eH,HH,HP⟩:=adD x hw;clear hw;obtain ⟨bG,bD,fQ,dn,bW,jg,ar,qp,bQ,dM,hnext,aV,aP,aW⟩:=aO h;subst ar;clear qp h;have S0:=Cc.new w [.slice bG x.O.length bD,.slice dn x.M.length bW,.int .i64 x.next,.int .i64 x.weights.pack,.int .i64 x.weights.spread,.int .i64 x.weights.soft] [.slice none 0 0,.slice none 0 0,.int .i64 0,.int .i64 0,.int .i64 0,.int .i64 0] [.slice none 0 0,.slice none 0 0,.int .i64 x.next,.int .i64 x.weights.pack,.int .i64 x.weights.spread,.int .i64 x.weights.soft] 29;go_enter Tryz.func16,Tryz.ntmps16;go_wp2_with fail
 go_loopw [16] (λi wr=>∃(k:Nat) (ds:List Value) (F':List Nat) (v:Value),k<=x.O.length/\Hid (x.O.length = 0->v = .slice none 0 0)/\i = .int .i64 k/\wr.ownsRow (w.heap.size+1+1+1) 38 6 v k ds/\aY wr (w.heap.size+1+1+1) (x.O.take k) ds F'/\(∀g,v.ownBlock = some g->g∉F')/\Cc w wr [.slice bG x.O.length bD,.slice dn x.M.length bW,.int .i64 x.next,.int .i64 x.weights.pack,.int .i64 x.weights.spread,.int .i64 x.weights.soft] [.slice none 0 0,.slice none 0 0,.int .i64 0,.int .i64 0,.int .i64 0,.int .i64 0] [v,.slice none 0 0,.int .i64 x.next,.int .i64 x.weights.pack,.int .i64 x.weights.spread,.int .i64 x.weights.soft]/\w.heap.size+1+1+1<=wr.heap.size) (λi _=>x.O.length - (intOf i).toNat)
 case atStart=>exact ⟨0,[],[],.slice none 0 0,Nat.zero_le _,I (λ_=>rfl),rfl,⟨rfl,.inl ⟨rfl,rfl⟩⟩,aY.nil _ _,(λg hg=>by simp),S0,by simp [World.setCell]⟩
 case round =>
  obtain ⟨k,ds,F',v,hk,HVN,rfl,aw,hO,bI,hS,bF⟩:=hrel;by_cases ap:k < x.O.length
  ·obtain ⟨b,o,ck,Fk,rfl,o9,hbs,hr,bi,hc⟩:=Sl.get (α:=ba) bQ ap;have cc:=hr;obtain ⟨dU,dV,Ba,kY,kZ,NR,ar,hF1,hname1,jr,IQ,IU,KD,yO⟩:=iy hr;subst ar;clear hF1 hr;have q0:w.cell? ⟨b,o+k * 6,none⟩ = some (.string x.O[k].name):=(by exact hc 0 _ rfl);replace q0:=r' hS.below q0 hbs;have q1:w.cell? ⟨b,o+k * 6+1,none⟩ = some (.slice dU x.O[k].labels.length dV):=(by rw [Nat.add_assoc];exact hc 1 _ rfl);replace q1:=r' hS.below q1 hbs;have q2:w.cell? ⟨b,o+k * 6+2,none⟩ = some (.int .i64 x.O[k].aq):=(by rw [Nat.add_assoc];exact hc 2 _ rfl);replace q2:=r' hS.below q2 hbs;have q3:w.cell? ⟨b,o+k * 6+3,none⟩ = some (.int .i64 x.O[k].mem):=(by rw [Nat.add_assoc];exact hc 3 _ rfl);replace q3:=r' hS.below q3 hbs;have q4:w.cell? ⟨b,o+k * 6+4,none⟩ = some (.int .i64 x.O[k].slots):=(by rw [Nat.add_assoc];exact hc 4 _ rfl);replace q4:=r' hS.below q4 hbs;have q5:w.cell? ⟨b,o+k * 6+5,none⟩ = some (.slice kY x.O[k].aT.length kZ):=(by rw [Nat.add_assoc];exact hc 5 _ rfl);replace q5:=r' hS.below q5 hbs;clear hc;obtain ⟨eZ,gg⟩:=HH.out x.O[k] (List.getElem_mem ap);obtain ⟨Av,cv,eO⟩:=mY aw;subst eO;have SD:=(hS.ext (ak (aj _) (.cells ([.string x.O[k].name,.slice dU x.O[k].labels.length dV,.int .i64 x.O[k].aq,.int .i64 x.O[k].mem,.int .i64 x.O[k].slots,.slice kY x.O[k].aT.length kZ]:List Value).toArray 38))).ext (aA (aj (wr.alloc (.cells ([.string x.O[k].name,.slice dU x.O[k].labels.length dV,.int .i64 x.O[k].aq,.int .i64 x.O[k].mem,.int .i64 x.O[k].slots,.slice kY x.O[k].aT.length kZ]:List Value).toArray 38))));have kB:oG (wr.alloc (.cells ([.string x.O[k].name,.slice dU x.O[k].labels.length dV,.int .i64 x.O[k].aq,.int .i64 x.O[k].mem,.int .i64 x.O[k].slots,.slice kY x.O[k].aT.length kZ]:List Value).toArray 38)).drew wr.heap.size [.string x.O[k].name,.slice dU x.O[k].labels.length dV,.int .i64 x.O[k].aq,.int .i64 x.O[k].mem,.int .i64 x.O[k].slots,.slice kY x.O[k].aT.length kZ]:=(oG.new wr [.string x.O[k].name,.slice dU x.O[k].labels.length dV,.int .i64 x.O[k].aq,.int .i64 x.O[k].mem,.int .i64 x.O[k].slots,.slice kY x.O[k].aT.length kZ] 38).ext (aA (aj _));have fN:Below wr.heap.size wr (wr.alloc (.cells ([.string x.O[k].name,.slice dU x.O[k].labels.length dV,.int .i64 x.O[k].aq,.int .i64 x.O[k].mem,.int .i64 x.O[k].slots,.slice kY x.O[k].aT.length kZ]:List Value).toArray 38)).drew:=aA (ak (aj _) _);have Zl:=mG aw fN;have sJ:=aY.ext hO fN;have Iy:=fN.size;have Y6:=I (λg hg=>(aw.lt g hg).2);have il:=I hO.lt;have vd:=ax.frame cc (λb hb=>SD.below.block b (ax.lt cc b hb)) SD.below.size;have x0:(λw'=>w'.cell? ⟨w.heap.size+1+1,0,none⟩ = some (.slice Av k cv)/\w'.cell? ⟨wr.heap.size,0,none⟩ = some (.string x.O[k].name)/\w'.cell? ⟨wr.heap.size,1,none⟩ = some (.slice dU x.O[k].labels.length dV)/\w'.cell? ⟨wr.heap.size,2,none⟩ = some (.int .i64 x.O[k].aq)/\w'.cell? ⟨wr.heap.size,3,none⟩ = some (.int .i64 x.O[k].mem)/\w'.cell? ⟨wr.heap.size,4,none⟩ = some (.int .i64 x.O[k].slots)/\w'.cell? ⟨wr.heap.size,5,none⟩ = some (.slice kY x.O[k].aT.length kZ)) (wr.alloc (.cells ([.string x.O[k].name,.slice dU x.O[k].labels.length dV,.int .i64 x.O[k].aq,.int .i64 x.O[k].mem,.int .i64 x.O[k].slots,.slice kY x.O[k].aT.length kZ]:List Value).toArray 38)).drew:=⟨SD.ob.cell (i:=0) (u:=.slice Av k cv) rfl,kB.cell (i:=0) (u:=.string x.O[k].name) rfl,kB.cell (i:=1) (u:=.slice dU x.O[k].labels.length dV) rfl,kB.cell (i:=2) (u:=.int .i64 x.O[k].aq) rfl,kB.cell (i:=3) (u:=.int .i64 x.O[k].mem) rfl,kB.cell (i:=4) (u:=.int .i64 x.O[k].slots) rfl,kB.cell (i:=5) (u:=.slice kY x.O[k].aT.length kZ) rfl⟩;have Dr:=I bI;clear hS aw hO bI fN;go_wp2_with fail
   refine uq (λw'=>w'.cell? ⟨w.heap.size+1+1,0,none⟩ = some (.slice Av k cv)/\w'.cell? ⟨wr.heap.size,0,none⟩ = some (.string x.O[k].name)/\w'.cell? ⟨wr.heap.size,1,none⟩ = some (.slice dU x.O[k].labels.length dV)/\w'.cell? ⟨wr.heap.size,2,none⟩ = some (.int .i64 x.O[k].aq)/\w'.cell? ⟨wr.heap.size,3,none⟩ = some (.int .i64 x.O[k].mem)/\w'.cell? ⟨wr.heap.size,4,none⟩ = some (.int .i64 x.O[k].slots)/\w'.cell? ⟨wr.heap.size,5,none⟩ = some (.slice kY x.O[k].aT.length kZ)) [0,1,2] [3,4,5] [6,7] U' U' H' x0 ?_;clear x0;generalize (wr.alloc (.cells ([.string x.O[k].name,.slice dU x.O[k].labels.length dV,.int .i64 x.O[k].aq,.int .i64 x.O[k].mem,.int .i64 x.O[k].slots,.slice kY x.O[k].aT.length kZ]:List Value).toArray 38)).drew = wd at *;simp only [pick,List.getElem?_cons_succ,List.getElem?_cons_zero]
   iterate 3
    (apply dR
     case hy =>refine Or.inl ⟨rfl,λwq hq=>?_⟩;obtain ⟨y0,y1,y2,y3,y4,y5,y6⟩:=hq;go_simp;try rfl
     simp only [Act.put,pz])
   refine fE ?_;refine iK rfl (λK hK=>?_);go_simp;refine (Tr x.O[k] _ _ _ vd eZ gg).mono ?_;rintro e lp ⟨V0,G10,rfl,Hr,fP⟩;have mx:=Hr.rd;obtain ⟨dZ,eF,uU,uV,uX,Xq,ar,hGh,Dh,qZ,IW,IX,abq,Qc⟩:=iy mx;subst ar;clear mx hGh;have BZ:=SD.ext fP;have Cb:=kB.ext fP;have x0:(λw'=>w'.cell? ⟨w.heap.size+1+1,0,none⟩ = some (.slice Av k cv)/\w'.cell? ⟨wr.heap.size,0,none⟩ = some (.string x.O[k].name)/\w'.cell? ⟨wr.heap.size,1,none⟩ = some (.slice dU x.O[k].labels.length dV)/\w'.cell? ⟨wr.heap.size,2,none⟩ = some (.int .i64 x.O[k].aq)/\w'.cell? ⟨wr.heap.size,3,none⟩ = some (.int .i64 x.O[k].mem)/\w'.cell? ⟨wr.heap.size,4,none⟩ = some (.int .i64 x.O[k].slots)/\w'.cell? ⟨wr.heap.size,5,none⟩ = some (.slice kY x.O[k].aT.length kZ)) lp:=⟨BZ.ob.cell (i:=0) (u:=.slice Av k cv) rfl,Cb.cell (i:=0) (u:=.string x.O[k].name) rfl,Cb.cell (i:=1) (u:=.slice dU x.O[k].labels.length dV) rfl,Cb.cell (i:=2) (u:=.int .i64 x.O[k].aq) rfl,Cb.cell (i:=3) (u:=.int .i64 x.O[k].mem) rfl,Cb.cell (i:=4) (u:=.int .i64 x.O[k].slots) rfl,Cb.cell (i:=5) (u:=.slice kY x.O[k].aT.length kZ) rfl⟩;refine hK _ _ x0 ?_;try simp only [Act.put,pz]
   clear hK K;clear x0;refine iK rfl (λK hK=>?_);go_simp;have OB:=BZ.ext (ak (aj _) (.cells ([.string x.O[k].name,.slice dZ x.O[k].labels.length eF,.int .i64 x.O[k].aq,.int .i64 x.O[k].mem,.int .i64 x.O[k].slots,.slice uV x.O[k].aT.length uX]:List Value).toArray 38));have J6:=oG.ext Cb (ak (aj _) (.cells ([.string x.O[k].name,.slice dZ x.O[k].labels.length eF,.int .i64 x.O[k].aq,.int .i64 x.O[k].mem,.int .i64 x.O[k].slots,.slice uV x.O[k].aT.length uX]:List Value).toArray 38));have x0:(λw'=>w'.cell? ⟨w.heap.size+1+1,0,none⟩ = some (.slice Av k cv)/\w'.cell? ⟨wr.heap.size,0,none⟩ = some (.string x.O[k].name)/\w'.cell? ⟨wr.heap.size,1,none⟩ = some (.slice dU x.O[k].labels.length dV)/\w'.cell? ⟨wr.heap.size,2,none⟩ = some (.int .i64 x.O[k].aq)/\w'.cell? ⟨wr.heap.size,3,none⟩ = some (.int .i64 x.O[k].mem)/\w'.cell? ⟨wr.heap.size,4,none⟩ = some (.int .i64 x.O[k].slots)/\w'.cell? ⟨wr.heap.size,5,none⟩ = some (.slice kY x.O[k].aT.length kZ)) (lp.alloc (.cells ([.string x.O[k].name,.slice dZ x.O[k].labels.length eF,.int .i64 x.O[k].aq,.int .i64 x.O[k].mem,.int .i64 x.O[k].slots,.slice uV x.O[k].aT.length uX]:List Value).toArray 38)):=⟨OB.ob.cell (i:=0) (u:=.slice Av k cv) rfl,J6.cell (i:=0) (u:=.string x.O[k].name) rfl,J6.cell (i:=1) (u:=.slice dU x.O[k].labels.length dV) rfl,J6.cell (i:=2) (u:=.int .i64 x.O[k].aq) rfl,J6.cell (i:=3) (u:=.int .i64 x.O[k].mem) rfl,J6.cell (i:=4) (u:=.int .i64 x.O[k].slots) rfl,J6.cell (i:=5) (u:=.slice kY x.O[k].aT.length kZ) rfl⟩;refine hK _ _ x0 ?_;try simp only [Act.put,pz]
   clear hK K;clear x0 OB J6;have qd:=mG Zl fP;have AK:=I qd;have Lg:=I (aY.ext sJ fP);have Si:=I BZ;have Sd:=I Cb;have Lh:=I Hr;have zO:wr.heap.size<=lp.heap.size:=Nat.le_trans Iy fP.size;clear SD Zl sJ BZ Hr fP kB Cb vd;refine iK rfl (λK hK=>?_);refine Qb Sc _ _ J' _ _ _ _ _ qd J' [.string x.O[k].name,.slice dZ x.O[k].labels.length eF,.int .i64 x.O[k].aq,.int .i64 x.O[k].mem,.int .i64 x.O[k].slots,.slice uV x.O[k].aT.length uX] po J' fm J J J ?_;intro v6 zu ug DV CO Uf;obtain ⟨A7,c7,hv6⟩:=mY ug;subst hv6;have EW:=Si.out.grown DV (λq hq=>by have:=(qd.lt q hq).1;omega);have Xr:=Sd.out.grown DV (λq hq=>by have:=Y6.out q hq;omega);have x0:(λw'=>w'.cell? ⟨w.heap.size+1+1,0,none⟩ = some (.slice Av k cv)/\w'.cell? ⟨wr.heap.size,0,none⟩ = some (.string x.O[k].name)/\w'.cell? ⟨wr.heap.size,1,none⟩ = some (.slice dU x.O[k].labels.length dV)/\w'.cell? ⟨wr.heap.size,2,none⟩ = some (.int .i64 x.O[k].aq)/\w'.cell? ⟨wr.heap.size,3,none⟩ = some (.int .i64 x.O[k].mem)/\w'.cell? ⟨wr.heap.size,4,none⟩ = some (.int .i64 x.O[k].slots)/\w'.cell? ⟨wr.heap.size,5,none⟩ = some (.slice kY x.O[k].aT.length kZ)) zu:=⟨EW.ob.cell (i:=0) (u:=.slice Av k cv) rfl,Xr.cell (i:=0) (u:=.string x.O[k].name) rfl,Xr.cell (i:=1) (u:=.slice dU x.O[k].labels.length dV) rfl,Xr.cell (i:=2) (u:=.int .i64 x.O[k].aq) rfl,Xr.cell (i:=3) (u:=.int .i64 x.O[k].mem) rfl,Xr.cell (i:=4) (u:=.int .i64 x.O[k].slots) rfl,Xr.cell (i:=5) (u:=.slice kY x.O[k].aT.length kZ) rfl⟩;exact Lf
  ·have bz:k = x.O.length:=J;subst bz;rw [List.take_length] at hO;obtain ⟨Ah,ch,Gh,rfl,Zm⟩:=ai.RT aw hO bI HVN.out;obtain ⟨B4,sI⟩:∃B4,wr.heap.size = B4:=⟨_,rfl⟩;have Zn:=I (show ∀y∈Gh,y < B4 from λy hy=>sI ▸ Zm.lt y hy);have WV:B4<=wr.heap.size:=Nat.le_of_eq sI.symm;have yk:w.heap.size+1+1+1<=B4:=J;have mq:=hS.box.cell (i:=0) (u:=.slice bG x.O.length bD) rfl;have ve:=hS.box.cell (i:=1) (u:=.slice dn x.M.length bW) rfl;clear sI aw hO bI;go_wp2_with fail
   clear mq ve;go_loopw [31] (λi wr=>∃(k:Nat) (ds:List Value) (F':List Nat) (v:Value),k<=x.M.length/\Hid (x.M.length = 0->v = .slice none 0 0)/\i = .int .i64 k/\wr.ownsRow B4 47 9 v k ds/\aY wr B4 (x.M.take k) ds F'/\(∀g,v.ownBlock = some g->g∉F')/\ai wr (w.heap.size+1+1+1) (Roomy.mk x.O 38) [.slice Ah x.O.length ch] Gh/\Cc w wr [.slice bG x.O.length bD,.slice dn x.M.length bW,.int .i64 x.next,.int .i64 x.weights.pack,.int .i64 x.weights.spread,.int .i64 x.weights.soft] [.slice none 0 0,.slice none 0 0,.int .i64 0,.int .i64 0,.int .i64 0,.int .i64 0] [.slice Ah x.O.length ch,v,.int .i64 x.next,.int .i64 x.weights.pack,.int .i64 x.weights.spread,.int .i64 x.weights.soft]/\B4<=wr.heap.size) (λi _=>x.M.length - (intOf i).toNat)
   case atStart=>exact ⟨0,[],[],.slice none 0 0,Nat.zero_le _,I (λ_=>rfl),rfl,⟨rfl,.inl ⟨rfl,rfl⟩⟩,aY.nil _ _,(λg hg=>by simp),Zm,hS,WV⟩
   case round =>
    clear hS Zm WV bF;obtain ⟨k,ds,F',v,hk,HVN,rfl,aw,hO,bI,Zm,hS,bF⟩:=hrel;by_cases ap:k < x.M.length
    ·obtain ⟨b,o,ck,Fk,rfl,o9,hbs,hr,bi,hc⟩:=Sl.get (α:=ag) dM ap;obtain ⟨c1,c2,F1,F2,rfl,rfl,QS,_,_,_,_,rfl,rfl,⟨rfl,rfl,eC⟩,⟨rfl,rfl,hseq⟩⟩:=hr;have sB:=QS;obtain ⟨dU,dV,Ba,mJ,mM,Vb,fK,fM,Fz,ar,hF1,hname1,jr,IQ,IU,Sj,Bv,qc⟩:=dL QS;subst ar;clear hF1 QS;have q0:w.cell? ⟨b,o+k * 9,none⟩ = some (.string x.M[k].aS.name):=(by exact hc 0 _ rfl);replace q0:=r' hS.below q0 hbs;have q1:w.cell? ⟨b,o+k * 9+1,none⟩ = some (.slice dU x.M[k].aS.labels.length dV):=(by rw [Nat.add_assoc];exact hc 1 _ rfl);replace q1:=r' hS.below q1 hbs;have q2:w.cell? ⟨b,o+k * 9+2,none⟩ = some (.int .i64 x.M[k].aS.aq):=(by rw [Nat.add_assoc];exact hc 2 _ rfl);replace q2:=r' hS.below q2 hbs;have q3:w.cell? ⟨b,o+k * 9+3,none⟩ = some (.int .i64 x.M[k].aS.mem):=(by rw [Nat.add_assoc];exact hc 3 _ rfl);replace q3:=r' hS.below q3 hbs;have q4:w.cell? ⟨b,o+k * 9+4,none⟩ = some (.int .i64 x.M[k].aS.av):=(by rw [Nat.add_assoc];exact hc 4 _ rfl);replace q4:=r' hS.below q4 hbs;have q5:w.cell? ⟨b,o+k * 9+5,none⟩ = some (.slice mJ x.M[k].aS.af.length mM):=(by rw [Nat.add_assoc];exact hc 5 _ rfl);replace q5:=r' hS.below q5 hbs;have q6:w.cell? ⟨b,o+k * 9+6,none⟩ = some (.slice fK x.M[k].aS.ae.length fM):=(by rw [Nat.add_assoc];exact hc 6 _ rfl);replace q6:=r' hS.below q6 hbs;have q7:w.cell? ⟨b,o+k * 9+7,none⟩ = some (.string x.M[k].on):=(by rw [Nat.add_assoc];exact hc 7 _ rfl);replace q7:=r' hS.below q7 hbs;have q8:w.cell? ⟨b,o+k * 9+8,none⟩ = some (.int .i64 x.M[k].seq):=(by rw [Nat.add_assoc];exact hc 8 _ rfl);replace q8:=r' hS.below q8 hbs;clear hc;obtain ⟨fu,cA,nU,hvv⟩:=HP.out x.M[k] (List.getElem_mem ap);have V5:=I hvv;obtain ⟨Av,cv,eO⟩:=mY aw;subst eO;clear hvv;have SD:=(hS.ext (ak (aj _) (.cells ([.string x.M[k].aS.name,.slice dU x.M[k].aS.labels.length dV,.int .i64 x.M[k].aS.aq,.int .i64 x.M[k].aS.mem,.int .i64 x.M[k].aS.av,.slice mJ x.M[k].aS.af.length mM,.slice fK x.M[k].aS.ae.length fM,.string x.M[k].on,.int .i64 x.M[k].seq]:List Value).toArray 47))).ext (aA (aj (wr.alloc (.cells ([.string x.M[k].aS.name,.slice dU x.M[k].aS.labels.length dV,.int .i64 x.M[k].aS.aq,.int .i64 x.M[k].aS.mem,.int .i64 x.M[k].aS.av,.slice mJ x.M[k].aS.af.length mM,.slice fK x.M[k].aS.ae.length fM,.string x.M[k].on,.int .i64 x.M[k].seq]:List Value).toArray 47))));have kB:oG (wr.alloc (.cells ([.string x.M[k].aS.name,.slice dU x.M[k].aS.labels.length dV,.int .i64 x.M[k].aS.aq,.int .i64 x.M[k].aS.mem,.int .i64 x.M[k].aS.av,.slice mJ x.M[k].aS.af.length mM,.slice fK x.M[k].aS.ae.length fM,.string x.M[k].on,.int .i64 x.M[k].seq]:List Value).toArray 47)).drew wr.heap.size [.string x.M[k].aS.name,.slice dU x.M[k].aS.labels.length dV,.int .i64 x.M[k].aS.aq,.int .i64 x.M[k].aS.mem,.int .i64 x.M[k].aS.av,.slice mJ x.M[k].aS.af.length mM,.slice fK x.M[k].aS.ae.length fM,.string x.M[k].on,.int .i64 x.M[k].seq]:=(oG.new wr [.string x.M[k].aS.name,.slice dU x.M[k].aS.labels.length dV,.int .i64 x.M[k].aS.aq,.int .i64 x.M[k].aS.mem,.int .i64 x.M[k].aS.av,.slice mJ x.M[k].aS.af.length mM,.slice fK x.M[k].aS.ae.length fM,.string x.M[k].on,.int .i64 x.M[k].seq] 47).ext (aA (aj _));have fN:Below wr.heap.size wr (wr.alloc (.cells ([.string x.M[k].aS.name,.slice dU x.M[k].aS.labels.length dV,.int .i64 x.M[k].aS.aq,.int .i64 x.M[k].aS.mem,.int .i64 x.M[k].aS.av,.slice mJ x.M[k].aS.af.length mM,.slice fK x.M[k].aS.ae.length fM,.string x.M[k].on,.int .i64 x.M[k].seq]:List Value).toArray 47)).drew:=aA (ak (aj _) _);have Zl:=mG aw fN;have sJ:=aY.ext hO fN;have OD:=ai.ext Zm fN;have Iy:=fN.size;have Y6:=I (λg hg=>(aw.lt g hg).2);have il:=I hO.lt;have vd:=ax.frame sB (λb hb=>SD.below.block b (ax.lt sB b hb)) SD.below.size;have x0:(λw'=>w'.cell? ⟨w.heap.size+1+1,1,none⟩ = some (.slice Av k cv)/\w'.cell? ⟨wr.heap.size,0,none⟩ = some (.string x.M[k].aS.name)/\w'.cell? ⟨wr.heap.size,1,none⟩ = some (.slice dU x.M[k].aS.labels.length dV)/\w'.cell? ⟨wr.heap.size,2,none⟩ = some (.int .i64 x.M[k].aS.aq)/\w'.cell? ⟨wr.heap.size,3,none⟩ = some (.int .i64 x.M[k].aS.mem)/\w'.cell? ⟨wr.heap.size,4,none⟩ = some (.int .i64 x.M[k].aS.av)/\w'.cell? ⟨wr.heap.size,5,none⟩ = some (.slice mJ x.M[k].aS.af.length mM)/\w'.cell? ⟨wr.heap.size,6,none⟩ = some (.slice fK x.M[k].aS.ae.length fM)/\w'.cell? ⟨wr.heap.size,7,none⟩ = some (.string x.M[k].on)/\w'.cell? ⟨wr.heap.size,8,none⟩ = some (.int .i64 x.M[k].seq)) (wr.alloc (.cells ([.string x.M[k].aS.name,.slice dU x.M[k].aS.labels.length dV,.int .i64 x.M[k].aS.aq,.int .i64 x.M[k].aS.mem,.int .i64 x.M[k].aS.av,.slice mJ x.M[k].aS.af.length mM,.slice fK x.M[k].aS.ae.length fM,.string x.M[k].on,.int .i64 x.M[k].seq]:List Value).toArray 47)).drew:=⟨SD.ob.cell (i:=1) (u:=.slice Av k cv) rfl,kB.cell (i:=0) (u:=.string x.M[k].aS.name) rfl,kB.cell (i:=1) (u:=.slice dU x.M[k].aS.labels.length dV) rfl,kB.cell (i:=2) (u:=.int .i64 x.M[k].aS.aq) rfl,kB.cell (i:=3) (u:=.int .i64 x.M[k].aS.mem) rfl,kB.cell (i:=4) (u:=.int .i64 x.M[k].aS.av) rfl,kB.cell (i:=5) (u:=.slice mJ x.M[k].aS.af.length mM) rfl,kB.cell (i:=6) (u:=.slice fK x.M[k].aS.ae.length fM) rfl,kB.cell (i:=7) (u:=.string x.M[k].on) rfl,kB.cell (i:=8) (u:=.int .i64 x.M[k].seq) rfl⟩;have Dr:=I bI;clear hS aw hO bI fN Zm;go_wp2_with fail
     refine uq (λw'=>w'.cell? ⟨w.heap.size+1+1,1,none⟩ = some (.slice Av k cv)/\w'.cell? ⟨wr.heap.size,0,none⟩ = some (.string x.M[k].aS.name)/\w'.cell? ⟨wr.heap.size,1,none⟩ = some (.slice dU x.M[k].aS.labels.length dV)/\w'.cell? ⟨wr.heap.size,2,none⟩ = some (.int .i64 x.M[k].aS.aq)/\w'.cell? ⟨wr.heap.size,3,none⟩ = some (.int .i64 x.M[k].aS.mem)/\w'.cell? ⟨wr.heap.size,4,none⟩ = some (.int .i64 x.M[k].aS.av)/\w'.cell? ⟨wr.heap.size,5,none⟩ = some (.slice mJ x.M[k].aS.af.length mM)/\w'.cell? ⟨wr.heap.size,6,none⟩ = some (.slice fK x.M[k].aS.ae.length fM)/\w'.cell? ⟨wr.heap.size,7,none⟩ = some (.string x.M[k].on)/\w'.cell? ⟨wr.heap.size,8,none⟩ = some (.int .i64 x.M[k].seq)) [0,1,2,3,5,6,7,8] [4,9,10,11] [12,13] U' U' H' x0 ?_;clear x0;generalize (wr.alloc (.cells ([.string x.M[k].aS.name,.slice dU x.M[k].aS.labels.length dV,.int .i64 x.M[k].aS.aq,.int .i64 x.M[k].aS.mem,.int .i64 x.M[k].aS.av,.slice mJ x.M[k].aS.af.length mM,.slice fK x.M[k].aS.ae.length fM,.string x.M[k].on,.int .i64 x.M[k].seq]:List Value).toArray 47)).drew = wd at *;simp only [pick,List.getElem?_cons_succ,List.getElem?_cons_zero]
     iterate 8
      (apply dR
       case hy =>refine Or.inl ⟨rfl,λwq hq=>?_⟩;obtain ⟨y0,y1,y2,y3,y4,y5,y6,y7,y8,y9⟩:=hq;go_simp;try rfl
       simp only [Act.put,pz])
     refine fE ?_;refine iK rfl (λK hK=>?_);go_simp;refine (Tl x.M[k].aS _ _ _ vd fu cA nU V5.out).mono ?_;rintro e lp ⟨V0,G10,rfl,Hr,fP⟩;have mx:=Hr.rd;obtain ⟨dZ,eF,uU,jQ,jR,Et,dH,dI,qE,ar,hGh,Dh,qZ,IW,IX,I4,C9,oN⟩:=dL mx;subst ar;clear mx hGh;have BZ:=SD.ext fP;have Cb:=kB.ext fP;have x0:(λw'=>w'.cell? ⟨w.heap.size+1+1,1,none⟩ = some (.slice Av k cv)/\w'.cell? ⟨wr.heap.size,0,none⟩ = some (.string x.M[k].aS.name)/\w'.cell? ⟨wr.heap.size,1,none⟩ = some (.slice dU x.M[k].aS.labels.length dV)/\w'.cell? ⟨wr.heap.size,2,none⟩ = some (.int .i64 x.M[k].aS.aq)/\w'.cell? ⟨wr.heap.size,3,none⟩ = some (.int .i64 x.M[k].aS.mem)/\w'.cell? ⟨wr.heap.size,4,none⟩ = some (.int .i64 x.M[k].aS.av)/\w'.cell? ⟨wr.heap.size,5,none⟩ = some (.slice mJ x.M[k].aS.af.length mM)/\w'.cell? ⟨wr.heap.size,6,none⟩ = some (.slice fK x.M[k].aS.ae.length fM)/\w'.cell? ⟨wr.heap.size,7,none⟩ = some (.string x.M[k].on)/\w'.cell? ⟨wr.heap.size,8,none⟩ = some (.int .i64 x.M[k].seq)) lp:=⟨BZ.ob.cell (i:=1) (u:=.slice Av k cv) rfl,Cb.cell (i:=0) (u:=.string x.M[k].aS.name) rfl,Cb.cell (i:=1) (u:=.slice dU x.M[k].aS.labels.length dV) rfl,Cb.cell (i:=2) (u:=.int .i64 x.M[k].aS.aq) rfl,Cb.cell (i:=3) (u:=.int .i64 x.M[k].aS.mem) rfl,Cb.cell (i:=4) (u:=.int .i64 x.M[k].aS.av) rfl,Cb.cell (i:=5) (u:=.slice mJ x.M[k].aS.af.length mM) rfl,Cb.cell (i:=6) (u:=.slice fK x.M[k].aS.ae.length fM) rfl,Cb.cell (i:=7) (u:=.string x.M[k].on) rfl,Cb.cell (i:=8) (u:=.int .i64 x.M[k].seq) rfl⟩;refine hK _ _ x0 ?_;try simp only [Act.put,pz]
     clear hK K;clear x0;refine iK rfl (λK hK=>?_);go_simp;have x0:(λw'=>w'.cell? ⟨w.heap.size+1+1,1,none⟩ = some (.slice Av k cv)/\w'.cell? ⟨wr.heap.size,0,none⟩ = some (.string x.M[k].aS.name)/\w'.cell? ⟨wr.heap.size,1,none⟩ = some (.slice dU x.M[k].aS.labels.length dV)/\w'.cell? ⟨wr.heap.size,2,none⟩ = some (.int .i64 x.M[k].aS.aq)/\w'.cell? ⟨wr.heap.size,3,none⟩ = some (.int .i64 x.M[k].aS.mem)/\w'.cell? ⟨wr.heap.size,4,none⟩ = some (.int .i64 x.M[k].aS.av)/\w'.cell? ⟨wr.heap.size,5,none⟩ = some (.slice mJ x.M[k].aS.af.length mM)/\w'.cell? ⟨wr.heap.size,6,none⟩ = some (.slice fK x.M[k].aS.ae.length fM)/\w'.cell? ⟨wr.heap.size,7,none⟩ = some (.string x.M[k].on)/\w'.cell? ⟨wr.heap.size,8,none⟩ = some (.int .i64 x.M[k].seq)) lp:=⟨BZ.ob.cell (i:=1) (u:=.slice Av k cv) rfl,Cb.cell (i:=0) (u:=.string x.M[k].aS.name) rfl,Cb.cell (i:=1) (u:=.slice dU x.M[k].aS.labels.length dV) rfl,Cb.cell (i:=2) (u:=.int .i64 x.M[k].aS.aq) rfl,Cb.cell (i:=3) (u:=.int .i64 x.M[k].aS.mem) rfl,Cb.cell (i:=4) (u:=.int .i64 x.M[k].aS.av) rfl,Cb.cell (i:=5) (u:=.slice mJ x.M[k].aS.af.length mM) rfl,Cb.cell (i:=6) (u:=.slice fK x.M[k].aS.ae.length fM) rfl,Cb.cell (i:=7) (u:=.string x.M[k].on) rfl,Cb.cell (i:=8) (u:=.int .i64 x.M[k].seq) rfl⟩;refine hK _ _ x0 ?_;try simp only [Act.put,pz]
     clear hK K;clear x0;refine iK rfl (λK hK=>?_);go_simp;have OB:=BZ.ext (ak (aj _) (.cells ([.string x.M[k].aS.name,.slice dZ x.M[k].aS.labels.length eF,.int .i64 x.M[k].aS.aq,.int .i64 x.M[k].aS.mem,.int .i64 x.M[k].aS.av,.slice jQ x.M[k].aS.af.length jR,.slice dH x.M[k].aS.ae.length dI,.string x.M[k].on,.int .i64 x.M[k].seq]:List Value).toArray 47));have J6:=oG.ext Cb (ak (aj _) (.cells ([.string x.M[k].aS.name,.slice dZ x.M[k].aS.labels.length eF,.int .i64 x.M[k].aS.aq,.int .i64 x.M[k].aS.mem,.int .i64 x.M[k].aS.av,.slice jQ x.M[k].aS.af.length jR,.slice dH x.M[k].aS.ae.length dI,.string x.M[k].on,.int .i64 x.M[k].seq]:List Value).toArray 47));have x0:(λw'=>w'.cell? ⟨w.heap.size+1+1,1,none⟩ = some (.slice Av k cv)/\w'.cell? ⟨wr.heap.size,0,none⟩ = some (.string x.M[k].aS.name)/\w'.cell? ⟨wr.heap.size,1,none⟩ = some (.slice dU x.M[k].aS.labels.length dV)/\w'.cell? ⟨wr.heap.size,2,none⟩ = some (.int .i64 x.M[k].aS.aq)/\w'.cell? ⟨wr.heap.size,3,none⟩ = some (.int .i64 x.M[k].aS.mem)/\w'.cell? ⟨wr.heap.size,4,none⟩ = some (.int .i64 x.M[k].aS.av)/\w'.cell? ⟨wr.heap.size,5,none⟩ = some (.slice mJ x.M[k].aS.af.length mM)/\w'.cell? ⟨wr.heap.size,6,none⟩ = some (.slice fK x.M[k].aS.ae.length fM)/\w'.cell? ⟨wr.heap.size,7,none⟩ = some (.string x.M[k].on)/\w'.cell? ⟨wr.heap.size,8,none⟩ = some (.int .i64 x.M[k].seq)) (lp.alloc (.cells ([.string x.M[k].aS.name,.slice dZ x.M[k].aS.labels.length eF,.int .i64 x.M[k].aS.aq,.int .i64 x.M[k].aS.mem,.int .i64 x.M[k].aS.av,.slice jQ x.M[k].aS.af.length jR,.slice dH x.M[k].aS.ae.length dI,.string x.M[k].on,.int .i64 x.M[k].seq]:List Value).toArray 47)):=⟨OB.ob.cell (i:=1) (u:=.slice Av k cv) rfl,J6.cell (i:=0) (u:=.string x.M[k].aS.name) rfl,J6.cell (i:=1) (u:=.slice dU x.M[k].aS.labels.length dV) rfl,J6.cell (i:=2) (u:=.int .i64 x.M[k].aS.aq) rfl,J6.cell (i:=3) (u:=.int .i64 x.M[k].aS.mem) rfl,J6.cell (i:=4) (u:=.int .i64 x.M[k].aS.av) rfl,J6.cell (i:=5) (u:=.slice mJ x.M[k].aS.af.length mM) rfl,J6.cell (i:=6) (u:=.slice fK x.M[k].aS.ae.length fM) rfl,J6.cell (i:=7) (u:=.string x.M[k].on) rfl,J6.cell (i:=8) (u:=.int .i64 x.M[k].seq) rfl⟩;refine hK _ _ x0 ?_;try simp only [Act.put,pz]
     clear hK K;clear x0 OB J6;have qd:=mG Zl fP;have AK:=I qd;have Lg:=I (aY.ext sJ fP);have FF:=I (ai.ext OD fP);have Si:=I BZ;have Sd:=I Cb;have Lh:=I (show ai lp _ x.M[k] [.string x.M[k].aS.name,.slice dZ x.M[k].aS.labels.length eF,.int .i64 x.M[k].aS.aq,.int .i64 x.M[k].aS.mem,.int .i64 x.M[k].aS.av,.slice jQ x.M[k].aS.af.length jR,.slice dH x.M[k].aS.ae.length dI,.string x.M[k].on,.int .i64 x.M[k].seq] G10 from ai.apg Hr eC hseq);have zO:wr.heap.size<=lp.heap.size:=Nat.le_trans Iy fP.size;clear SD Zl sJ OD BZ Hr fP kB Cb vd;refine iK rfl (λK hK=>?_);refine Qb YH _ _ J' _ _ _ _ _ qd J' [.string x.M[k].aS.name,.slice dZ x.M[k].aS.labels.length eF,.int .i64 x.M[k].aS.aq,.int .i64 x.M[k].aS.mem,.int .i64 x.M[k].aS.av,.slice jQ x.M[k].aS.af.length jR,.slice dH x.M[k].aS.ae.length dI,.string x.M[k].on,.int .i64 x.M[k].seq] po J' fm J J J ?_;intro v6 zu ug DV CO Uf;obtain ⟨A7,c7,hv6⟩:=mY ug;subst hv6;have EW:=Si.out.grown DV (λq hq=>by have:=(qd.lt q hq).1;omega);have Xr:=Sd.out.grown DV (λq hq=>by have:=Y6.out q hq;omega);have Z0:=FF.out.aju DV Zn.out (λq hq=>(qd.lt q hq).1);have x0:(λw'=>w'.cell? ⟨w.heap.size+1+1,1,none⟩ = some (.slice Av k cv)/\w'.cell? ⟨wr.heap.size,0,none⟩ = some (.string x.M[k].aS.name)/\w'.cell? ⟨wr.heap.size,1,none⟩ = some (.slice dU x.M[k].aS.labels.length dV)/\w'.cell? ⟨wr.heap.size,2,none⟩ = some (.int .i64 x.M[k].aS.aq)/\w'.cell? ⟨wr.heap.size,3,none⟩ = some (.int .i64 x.M[k].aS.mem)/\w'.cell? ⟨wr.heap.size,4,none⟩ = some (.int .i64 x.M[k].aS.av)/\w'.cell? ⟨wr.heap.size,5,none⟩ = some (.slice mJ x.M[k].aS.af.length mM)/\w'.cell? ⟨wr.heap.size,6,none⟩ = some (.slice fK x.M[k].aS.ae.length fM)/\w'.cell? ⟨wr.heap.size,7,none⟩ = some (.string x.M[k].on)/\w'.cell? ⟨wr.heap.size,8,none⟩ = some (.int .i64 x.M[k].seq)) zu:=⟨EW.ob.cell (i:=1) (u:=.slice Av k cv) rfl,Xr.cell (i:=0) (u:=.string x.M[k].aS.name) rfl,Xr.cell (i:=1) (u:=.slice dU x.M[k].aS.labels.length dV) rfl,Xr.cell (i:=2) (u:=.int .i64 x.M[k].aS.aq) rfl,Xr.cell (i:=3) (u:=.int .i64 x.M[k].aS.mem) rfl,Xr.cell (i:=4) (u:=.int .i64 x.M[k].aS.av) rfl,Xr.cell (i:=5) (u:=.slice mJ x.M[k].aS.af.length mM) rfl,Xr.cell (i:=6) (u:=.slice fK x.M[k].aS.ae.length fM) rfl,Xr.cell (i:=7) (u:=.string x.M[k].on) rfl,Xr.cell (i:=8) (u:=.int .i64 x.M[k].seq) rfl⟩;have fx:=EW.ob.fz 1;have lx:=EW.ob.lt;refine hK _ _ x0 ?_;try simp only [Act.put,pz]
     clear hK K;replace x0:=x0.1;refine yG ?_;go_wp2;exact Ll
    ·have bz:k = x.M.length:=J;subst bz;rw [List.take_length] at hO;obtain ⟨Ap,cp,Gp,rfl,hOP⟩:=ai.RT aw hO bI HVN.out;have HO:=I (ai.alU Zm.list hOP.list (Nat.le_refl _) yk Zn.out hnext aV aP aW);have ve:=hS.box.cell (i:=1) (u:=.slice dn x.M.length bW) rfl;obtain ⟨m0,m1,m2,m3,m4,m5⟩:=cK hS.ob;obtain ⟨r0,r1,r2,r3,r4,r5⟩:=cK hS.rb;have rl:=hS.rb.lt;have rf:=hS.rb.fz;have HS:=I hS;have Z7:=I Zm;have Z8:=I hOP;clear hS Zm hOP aw hO bI;go_wp2_with fail
     try dsimp only
     iterate 60 (first | go_step | skip)
     refine bodyPost_ret (v:=.agg #[.slice Ah x.O.length ch,.slice Ap x.M.length cp,.int .i64 x.next,.int .i64 x.weights.pack,.int .i64 x.weights.spread,.int .i64 x.weights.soft]) (by simp [results,Tryz.results16,go_sem, *]) rfl ⟨[.slice Ah x.O.length ch,.slice Ap x.M.length cp,.int .i64 x.next,.int .i64 x.weights.pack,.int .i64 x.weights.spread,.int .i64 x.weights.soft],Gh++Gp,rfl,?_,?_,?_⟩
     ·refine ai.mono (B:=w.heap.size+1+1+1) ?_ J;exact av6
     ·exact Im
     ·exact LH
theorem uo (x:aU) (cs:List Value) (F:List Nat) (w:World) (h:rd w x cs F) (hw:(x.wt:Int)<=1048576) :
 Calls Tryz.prog 16 #[.agg cs.toArray] w λe w'=>∃cs F,e = .returned (.agg cs.toArray)/\ai w' w.heap.size x cs F/\Below w.heap.size w w' :=
 (VW x cs F w h hw).mono λ_ _ ⟨ds,G,h1,h2,h3,_⟩=>⟨ds,G,h1,h2,h3⟩
def Jo (used more most:Int):Bool:=match GX used more with | some s=>decide (s<=most) | none=>false
def Vm (h:ba) (p:nI) (a b n:Int):Int :=
 if Hw h.labels p.af = false then 1 else if 0 < (BD p.ae 1 h.aT:Int) then 2
 else if Jo a p.aq h.aq = false then 3 else if Jo b p.mem h.mem = false then 4 else if h.slots<=n then 5 else 0
def oH (nm:ByteArray) (x:aU) (p:nI):Int :=
 if pK (iM nm) x.O < 0 then 6 else
 match vU (F7 nm x.M),x.O[(pK (iM nm) x.O).toNat]? with
 | some (a,b),some h=>Vm h p a b (F7 nm x.M).length
 | _,_=>6
theorem afH {nm:ByteArray} {x:aU} {p:nI} (h:pK (iM nm) x.O = -1):oH nm x p = 6:=by unfold oH;rw [h];rfl
theorem abG {nm:ByteArray} {x:aU} {p:nI} (h:vU (F7 nm x.M) = none):oH nm x p = 6:=by unfold oH;rw [h];simp
theorem afI {nm:ByteArray} {x:aU} {p:nI} {k:Nat} {a b:Int} (hk:k < x.O.length) (h:pK (iM nm) x.O = k) (hs:vU (F7 nm x.M) = some (a,b)):oH nm x p = Vm x.O[k] p a b (F7 nm x.M).length:=by
 unfold oH;exact Eh
theorem afJ {h:ba} (hw:(h.wt:Int)<=1048576):((h.labels.length:Int)<=1048576)/\((kL iU.wt h.aT:Int)<=1048576):=by
 have i':h.wt = h.name.size+kL ao.wt h.labels+kL iU.wt h.aT:=rfl;have:=gJ ao.wt h.labels;omega
theorem Tz (x:aU) (p:nI) (cs ps:List Value) (F G:List Nat) (nm:ByteArray) (w:World) (h:rd w x cs F) (h':rd w p ps G) (hw:(x.wt:Int)<=1048576) (kv:(p.wt:Int)<=1048576) :
 Calls Tryz.prog 237 #[.agg cs.toArray,.string nm,.agg ps.toArray] w λe w'=>e = .returned (.int .i64 (oH nm x p))/\Below w.heap.size w w':=by
 have i':x.wt = kL ba.wt x.O+kL ag.wt x.M:=rfl;have FB:p.wt = p.name.size+kL ao.wt p.labels+kL aL.wt p.af+kL bH.wt p.ae:=rfl;have bE:(x.O.length:Int)<=1048576:=by have:=gJ ba.wt x.O;omega
 have vk:(x.M.length:Int)<=1048576:=by have:=gJ ag.wt x.M;omega
 obtain ⟨gg,i7⟩:=FQ (xs:=p.ae) J;obtain ⟨tB,xt⟩:=Aa (xs:=p.af) J;have Ux:=I i7;have N4:=I xt;clear i7 xt;have hr:=h;have dE:=h';obtain ⟨bG,bD,fQ,dn,bW,jg,ar,hF,bQ,dM,hnext,aV,aP,aW⟩:=aO hr;obtain ⟨bY,bZ,iq,eU,eX,jV,bg,bn,dK,jU,hG,jW,dA,kQ,lg,lG,iO,bK⟩:=dL dE;subst ar jU;clear hF hG hr dE;rcases yg (iM nm) x.O with hi | ⟨k,hk,hi⟩
 ·have HF:=I (afH (p:=p) hi);have HI:=I hi;clear hi;cases hs:vU (F7 nm x.M) with
  | none =>have HU:=I (AV hs);exact EB
  | some ab =>obtain ⟨a,b⟩:=ab;have HU:=I (AX hs);exact EB
 ·cases hs:vU (F7 nm x.M) with
  | none =>have HF:=I (abG (p:=p) hs);have HI:=I hi;clear hi;have HU:=I (AV hs);exact EB
  | some ab =>
    obtain ⟨a,b⟩:=ab;have cF:=afI (p:=p) hk hi hs;obtain ⟨ha,hb⟩:=UD (A:=dn) (c:=bW) dM hs;have HI:=I hi;clear hi;have HU:=I (AX hs);clear hs;have hL:=NK nm x.M;generalize (F7 nm x.M).length = L at cF HU hL;have Ix:(L:Int)<=1048576:=J;clear hL;obtain ⟨Jd,hht⟩:=afJ (h:=x.O[k]) (by have:=rM (f:=ba.wt) hk;omega);obtain ⟨tF,hxs⟩:=BH hht;have W5:=UN p.ae 1 x.O[k].aT;obtain ⟨bh,o,ck,Fk,rfl,o9,hbs,hr,bi,hc⟩:=Sl.get (α:=ba) (A:=bG) (c:=bD) bQ hk;obtain ⟨jM,jO,sN,jE,jF,sO,ar,su,zM,qY,Gt,Gw,xg,qA⟩:=iy hr;subst ar;obtain ⟨q0,q1,q2,q3,q4,q5⟩:=ss 6 hc;clear hc
    have Q6:=I (show ∀wq,Below w.heap.size w wq->Calls Tryz.prog 247 #[.slice eU p.af.length eX,.slice jM x.O[k].labels.length jO] wq λe w'=>e = .returned (.bool (Hw x.O[k].labels p.af))/\Below wq.heap.size wq w' from
     λwq hq=>alb p.af x.O[k].labels _ _ _ _ _ _ _ _ wq (iO.ext hq) (qY.ext hq) rfl rfl tB Jd N4.out)
    have Pv:∀wq,Below w.heap.size w wq->Calls Tryz.prog 240 #[.slice bg p.ae.length bn,.slice jE x.O[k].aT.length jF,.int .i64 1] wq λe w'=>e = .returned (.int .i64 (BD p.ae 1 x.O[k].aT))/\Below wq.heap.size wq w' :=
     λwq hq=>UQ p.ae x.O[k].aT 1 _ _ _ _ _ _ _ _ _ (bK.ext hq) (qA.ext hq) rfl rfl gg tF Ux.out hxs
    have Ra:=I Pv;unfold Vm at cF;clear Pv hxs;generalize BD p.ae 1 x.O[k].aT = z at Ra cF W5;have td:(z:Int)<=1048576:=J;have xi:=I cF;clear cF;have W7:=I (show (x.O.length:Int)<=1048576 from bE);clear hht Jd tF bE;go_enter Tryz.func237,Tryz.ntmps237;go_wp2_with fail
    refine (gQ x _ _ nm _ (aJ h bJ) W7.out).mono ?_;rw [HI.out];rintro e w2 ⟨rfl,am⟩;obtain ⟨bM,cB⟩:=ay am;have ca:w.heap.size < w2.heap.size:=(sq am.size);have rj:w.heap.size+1 < w2.heap.size:=(sq am.size);have gL:Below w.heap.size w w2:=bJ;go_wp2_with fail
    refine (jm x _ _ nm _ (aJ h bJ) vk).mono ?_;rw [HU.out];rintro e w3 ⟨rfl,az⟩;obtain ⟨cw,hf3⟩:=ay az;have eB:w.heap.size < w3.heap.size:=(sq az.size);have Jx:w.heap.size+1 < w3.heap.size:=(sq az.size);have gT:Below w.heap.size w w3:=ah gL az;replace q0:=r' gT q0 hbs;replace q1:=r' gT q1 hbs;replace q2:=r' gT q2 hbs;replace q3:=r' gT q3 hbs;replace q4:=r' gT q4 hbs;replace q5:=r' gT q5 hbs;have jd:bh < w3.heap.size:=(by have:=gT.size;omega);cases hS:Hw x.O[k].labels p.af
    ·have HF:=I (show oH nm x p = 1 by rw [xi.out,if_pos hS]);have HS:=I hS;clear hS;go_wp2_with fail
     refine (Q6.out _ bJ).mono ?_;rw [HS.out];rintro e w4 ⟨rfl,bm⟩;obtain ⟨ee,hf4⟩:=ay bm;have Wy:w.heap.size < w4.heap.size:=(sq bm.size);have Q3:w.heap.size+1 < w4.heap.size:=(sq bm.size);have Tf:w3.heap.size < w4.heap.size:=(sq bm.size);exact Dz
    ·by_cases hu:(0:Int) < (z:Int)
     ·have HF:=I (show oH nm x p = 2 by rw [xi.out,if_neg (by simp [hS]),if_pos hu]);have HS:=I hS;clear hS;go_wp2_with fail
      refine (Q6.out _ bJ).mono ?_;rw [HS.out];rintro e w4 ⟨rfl,bm⟩;obtain ⟨ee,hf4⟩:=ay bm;have Wy:w.heap.size < w4.heap.size:=(sq bm.size);have Q3:w.heap.size+1 < w4.heap.size:=(sq bm.size);have Tf:w3.heap.size < w4.heap.size:=(sq bm.size);go_wp2_with fail
      refine (Ra.out _ bJ).mono ?_;rintro e w5 ⟨rfl,bu⟩;obtain ⟨pA,ow⟩:=ay bu;have Es:w.heap.size < w5.heap.size:=(sq bu.size);have IV:w.heap.size+1 < w5.heap.size:=(sq bu.size);have xb:w3.heap.size < w5.heap.size:=(sq bu.size);exact Dz
     ·cases he1:GX a p.aq with
      | none =>have ek:Jo a p.aq x.O[k].aq = false:=(by unfold Jo;rw [he1]);exact KZ
      | some s1 =>
        by_cases Fs:s1<=x.O[k].aq
        ·have ek:Jo a p.aq x.O[k].aq = true:=(by unfold Jo;rw [he1];simp [Fs]);cases he2:GX b p.mem with
         | none =>have cB:Jo b p.mem x.O[k].mem = false:=(by unfold Jo;rw [he2]);exact NB
         | some s2 =>
           by_cases hle2:s2<=x.O[k].mem
           ·have cB:Jo b p.mem x.O[k].mem = true:=(by unfold Jo;rw [he2];simp [hle2]);by_cases nu:x.O[k].slots<=(L:Int)
            ·have HF:=I (show oH nm x p = 5 by rw [xi.out,if_neg (by simp [hS]),if_neg hu,if_neg (by simp [ek]),if_neg (by simp [cB]),if_pos nu]);exact CI
            ·have HF:=I (show oH nm x p = 0 by rw [xi.out,if_neg (by simp [hS]),if_neg hu,if_neg (by simp [ek]),if_neg (by simp [cB]),if_neg nu]);exact CI
           ·have cB:Jo b p.mem x.O[k].mem = false:=(by unfold Jo;rw [he2];simp [hle2]);exact NB
        ·have ek:Jo a p.aq x.O[k].aq = false:=(by unfold Jo;rw [he1];simp [Fs]);exact KZ
theorem Oa (x:aU) (p:nI) (cs ps:List Value) (F G:List Nat) (nm:ByteArray) (w:World) (h:rd w x cs F) (h':rd w p ps G) (hw:(x.wt:Int)<=1048576) (kv:(p.wt:Int)<=1048576) :
 Calls Tryz.prog 214 #[.agg cs.toArray,.string nm,.agg ps.toArray] w λe w'=>e = .returned (.bool (oH nm x p == 0))/\Below w.heap.size w w':=by
 have hr:=h;have dE:=h';obtain ⟨bG,bD,fQ,dn,bW,jg,ar,hF,bQ,dM,hnext,aV,aP,aW⟩:=aO hr;obtain ⟨bY,bZ,iq,eU,eX,jV,bg,bn,dK,jU,hG,jW,dA,kQ,lg,lG,iO,bK⟩:=dL dE;subst ar jU;clear hF hG hr dE;go_enter Tryz.func214,Tryz.ntmps214;go_wp2_with fail
 refine (Tz x p _ _ _ _ nm _ (aJ h bJ) (aJ h' bJ) hw kv).mono ?_;rintro e w2 ⟨rfl,am⟩;go_wp2;go_ret
 exact ⟨rfl,bJ⟩
def Pw (x:aU) (p:nI) (h:ba):Bool:=oH h.name x p == 0
def Ar (x:aU) (p:nI) (hs:List ba):List ByteArray:=(hs.filter (Pw x p)).map ba.name
theorem YM {x:aU} {p:nI} {hs:List ba} {k:Nat} (h:k < hs.length) (hp:Pw x p hs[k] = true):Ar x p (hs.take (k+1)) = Ar x p (hs.take k)++[hs[k].name]:=by
 unfold Ar;rw [List.take_succ_eq_append_getElem h,List.filter_append,List.map_append];simp [hp]
theorem abE {x:aU} {p:nI} {hs:List ba} {k:Nat} (h:k < hs.length) (hp:Pw x p hs[k] = false):Ar x p (hs.take (k+1)) = Ar x p (hs.take k):=by
 unfold Ar;rw [List.take_succ_eq_append_getElem h,List.filter_append,List.map_append];simp [hp]
theorem LY (x:aU) (p:nI) (hs:List ba):(Ar x p hs).length<=hs.length:=by unfold Ar;rw [List.length_map];exact List.length_filter_le _ _
theorem afG (x:aU) (p:nI) (hs:List ba) (k:Nat):(Ar x p (hs.take k)).length<=k:=Nat.le_trans (LY _ _ _) Ak
theorem aY.W8 {w:World} {B:Nat} {xs:List ByteArray} {ds:List Value} {s:ByteArray} (h:aY w B xs ds []) (hs:(s.size:Int)<=9223372036854775807):aY w B (xs++[s]) (ds++[.string s]) [] :=
 ⟨h.rd.append (.single (rdStr w s hs)),List.nodup_nil,(λb hb=>by cases hb),(λb hb=>by cases hb)⟩
theorem Zv (x:aU) (p:nI) (cs ps:List Value) (F G:List Nat) (w:World) (h:rd w x cs F) (h':rd w p ps G) (hw:(x.wt:Int)<=1048576) (kv:(p.wt:Int)<=1048576) :
 Calls Tryz.prog 162 #[.agg cs.toArray,.agg ps.toArray] w λe w'=>∃A c G,e = .returned (.slice A (Ar x p x.O).length c)/\ai w' w.heap.size (Ar x p x.O) [.slice A (Ar x p x.O).length c] G/\Below w.heap.size w w':=by
 have i':x.wt = kL ba.wt x.O+kL ag.wt x.M:=rfl;have bE:(x.O.length:Int)<=1048576:=by have:=gJ ba.wt x.O;omega
 have HW:=I hw;have Uc:=I kv;clear hw kv i';have hr:=h;have dE:=h';obtain ⟨bG,bD,fQ,dn,bW,jg,ar,hF,bQ,dM,hnext,aV,aP,aW⟩:=aO hr;obtain ⟨bY,bZ,iq,eU,eX,jV,bg,bn,dK,jU,hG,jW,dA,kQ,lg,lG,iO,bK⟩:=dL dE;subst ar jU;clear hF hG hr dE;go_enter Tryz.func162,Tryz.ntmps162;go_wp2_with fail
 obtain ⟨w0,hw0⟩:∃w0,(w.alloc (.cells #[.slice bG x.O.length bD,.slice dn x.M.length bW,.int .i64 x.next,.int .i64 x.weights.pack,.int .i64 x.weights.spread,.int .i64 x.weights.soft] 29)).alloc (.cells #[.string p.name,.slice bY p.labels.length bZ,.int .i64 p.aq,.int .i64 p.mem,.int .i64 p.av,.slice eU p.af.length eX,.slice bg p.ae.length bn] 35) = w0:=⟨_,rfl⟩;try rw [hw0]
 have c0:w0.cell? ⟨w.heap.size,0,none⟩ = some (.slice bG x.O.length bD):=by rw [<- hw0,World.cell?_of_block (heap_alloc_old _ _ S'),cell_of_row _ _ _ _ _ _ (heap_alloc_new w _)];rfl
 have c1:w0.cell? ⟨w.heap.size,1,none⟩ = some (.slice dn x.M.length bW):=by rw [<- hw0,World.cell?_of_block (heap_alloc_old _ _ S'),cell_of_row _ _ _ _ _ _ (heap_alloc_new w _)];rfl
 have c2:w0.cell? ⟨w.heap.size,2,none⟩ = some (.int .i64 x.next):=by rw [<- hw0,World.cell?_of_block (heap_alloc_old _ _ S'),cell_of_row _ _ _ _ _ _ (heap_alloc_new w _)];rfl
 have c3:w0.cell? ⟨w.heap.size,3,none⟩ = some (.int .i64 x.weights.pack):=by rw [<- hw0,World.cell?_of_block (heap_alloc_old _ _ S'),cell_of_row _ _ _ _ _ _ (heap_alloc_new w _)];rfl
 have c4:w0.cell? ⟨w.heap.size,4,none⟩ = some (.int .i64 x.weights.spread):=by rw [<- hw0,World.cell?_of_block (heap_alloc_old _ _ S'),cell_of_row _ _ _ _ _ _ (heap_alloc_new w _)];rfl
 have c5:w0.cell? ⟨w.heap.size,5,none⟩ = some (.int .i64 x.weights.soft):=by rw [<- hw0,World.cell?_of_block (heap_alloc_old _ _ S'),cell_of_row _ _ _ _ _ _ (heap_alloc_new w _)];rfl
 have d0:w0.cell? ⟨w.heap.size+1,0,none⟩ = some (.string p.name):=by rw [<- hw0];simp
 have d1:w0.cell? ⟨w.heap.size+1,1,none⟩ = some (.slice bY p.labels.length bZ):=by rw [<- hw0];simp
 have d2:w0.cell? ⟨w.heap.size+1,2,none⟩ = some (.int .i64 p.aq):=by rw [<- hw0];simp
 have d3:w0.cell? ⟨w.heap.size+1,3,none⟩ = some (.int .i64 p.mem):=by rw [<- hw0];simp
 have d4:w0.cell? ⟨w.heap.size+1,4,none⟩ = some (.int .i64 p.av):=by rw [<- hw0];simp
 have d5:w0.cell? ⟨w.heap.size+1,5,none⟩ = some (.slice eU p.af.length eX):=by rw [<- hw0];simp
 have d6:w0.cell? ⟨w.heap.size+1,6,none⟩ = some (.slice bg p.ae.length bn):=by rw [<- hw0];simp
 have i6:Below w.heap.size w w0:=by rw [<- hw0];exact ak (ak (aj _) _) _
 have ky:w0.heap.size = w.heap.size+1+1:=by rw [<- hw0];simp
 have bX:w.heap.size < w0.heap.size:=by omega
 have cI:w.heap.size+1 < w0.heap.size:=by omega
 have HS0:=I ky;clear hw0 ky;go_loopw [5,6] (λv i wr=>∃(k:Nat) (ds:List Value),k<=x.O.length/\i = .int .i64 k/\wr.ownsRow w0.heap.size 9 1 v (Ar x p (x.O.take k)).length ds/\aY w w0.heap.size (Ar x p (x.O.take k)) ds []/\Below w0.heap.size w0 wr) (λ_ i _=>x.O.length - (intOf i).toNat)
 case atStart =>refine ⟨0,[],Nat.zero_le _,rfl,?_,aY.nil _ _,ak (aj _) _⟩;rw [<- HS0.out];have:=World.ownsRow_made (base:=w0.heap.size) (e:=9) (size:=1) w0 #[] 0 S' pE rfl;simpa [Ar] using this
 case round =>
  obtain ⟨k,ds,hk,rfl,aw,dC,aM⟩:=hrel;by_cases ap:k < x.O.length
  ·obtain ⟨b,o,ck,Fk,rfl,o9,hbs,hr,bi,hc⟩:=Sl.get (α:=ba) (A:=bG) (c:=bD) bQ ap;obtain ⟨jM,jO,sN,jE,jF,sO,ar,su,zM,qY,Gt,Gw,xg,qA⟩:=iy hr;subst ar;obtain ⟨q0,q1,q2,q3,q4,q5⟩:=ss 6 hc;clear hc;have bF:Below w.heap.size w wr:=ah i6 (aM.mono J);replace q0:=r' bF q0 hbs;replace q1:=r' bF q1 hbs;replace q2:=r' bF q2 hbs;replace q3:=r' bF q3 hbs;replace q4:=r' bF q4 hbs;replace q5:=r' bF q5 hbs;have WU:b < wr.heap.size:=(by have:=bF.size;omega);have hK:=(ay aM).1;replace c0:=(hK _ _ bX).trans c0;replace c1:=(hK _ _ bX).trans c1;replace c2:=(hK _ _ bX).trans c2;replace c3:=(hK _ _ bX).trans c3;replace c4:=(hK _ _ bX).trans c4;replace c5:=(hK _ _ bX).trans c5;replace d0:=(hK _ _ cI).trans d0;replace d1:=(hK _ _ cI).trans d1;replace d2:=(hK _ _ cI).trans d2;replace d3:=(hK _ _ cI).trans d3;replace d4:=(hK _ _ cI).trans d4;replace d5:=(hK _ _ cI).trans d5;replace d6:=(hK _ _ cI).trans d6;clear hK;have tX:w.heap.size < wr.heap.size:=(by have:=aM.size;omega);have aaD:w.heap.size+1 < wr.heap.size:=(by have:=aM.size;omega);have Iv:(Ar x p (x.O.take k)).length<=k:=afG x p x.O k;cases hp:Pw x p x.O[k] with
   | true =>
     have HP:=I hp;have Rl:=I (show (oH x.O[k].name x p == 0) = true from hp);clear hp;go_wp2_with fail
     first
      | (refine (Oa x p _ _ _ _ x.O[k].name _ (aJ h Rr) (aJ h' Rr) HW.out Uc.out).mono ?_
         rw [Rl.out]
         rintro e wn ⟨rfl,hn⟩)
      | (refine aF _ U' U' (aj _) ?_
         repeat ((first | refine aG J' ?_ | refine aH _ J' Lq ?_);simp only [Act.put,pz])
         refine aN ?_;intro wn hn
         replace hn:=hn.out)
     obtain ⟨kq,mZ⟩:=ay hn
     first
      | have kr:wr.heap.size < wn.heap.size:=(sq hn.size)
      | have kr:wr.heap.size<=wn.heap.size:=(sq hn.size)
     have bs:Below w0.heap.size w0 wn:=(by first | exact ah aM hn | exact ah (ak aM _) hn);first | have zq:=mG aw hn | have zq:=mG (aw.alloc _) hn
     go_wp2_with (
      at_builtin
      go_must (refine lC qw J' _ _ J' _ _ _ _ _ zq J' [.string x.O[k].name] po J' fm J J awN ?_)
      intro v2 w2 eP fT ca)
     have am:Below w0.heap.size w0 w2:=lS (B:=w0.heap.size) zq fT bs (by have:=bs.size;omega);exact ⟨⟨k+1,_,J,N',(by rw [YM ap HP.out,List.length_append];exact eP),(by rw [YM ap HP.out];exact dC.W8 (rV zM)),am⟩,by simp [intOf];omega⟩
   | false =>
     have HP:=I hp;have Rl:=I (show (oH x.O[k].name x p == 0) = false from hp);clear hp;go_wp2_with fail
     first
      | (refine (Oa x p _ _ _ _ x.O[k].name _ (aJ h Rr) (aJ h' Rr) HW.out Uc.out).mono ?_
         rw [Rl.out]
         rintro e wn ⟨rfl,hn⟩)
      | (refine aF _ U' U' (aj _) ?_
         repeat ((first | refine aG J' ?_ | refine aH _ J' Lq ?_);simp only [Act.put,pz])
         refine aN ?_;intro wn hn
         replace hn:=hn.out)
     obtain ⟨kq,mZ⟩:=ay hn
     first
      | have kr:wr.heap.size < wn.heap.size:=(sq hn.size)
      | have kr:wr.heap.size<=wn.heap.size:=(sq hn.size)
     have bs:Below w0.heap.size w0 wn:=(by first | exact ah aM hn | exact ah (ak aM _) hn);first | have zq:=mG aw hn | have zq:=mG (aw.alloc _) hn
     go_wp2;exact ⟨⟨k+1,_,J,N',(by rw [abE ap HP.out];exact zq),(by rw [abE ap HP.out];exact dC),bs⟩,by simp [intOf];omega⟩
  ·have bz:k = x.O.length:=J;subst bz;rw [List.take_length] at aw dC;have bF:Below w.heap.size w wr:=ah i6 aM;obtain ⟨Al,cl,Gl,rfl,nu⟩:=ai.oJ aw ((aY.keep dC (λb hb=>by cases hb) bF.size)) (λ_ _ hb=>by cases hb);have Iv:=LY x p x.O;clear aw dC;have hK:=(ay aM).1;replace c0:=(hK _ _ bX).trans c0;replace c1:=(hK _ _ bX).trans c1;replace c2:=(hK _ _ bX).trans c2;replace c3:=(hK _ _ bX).trans c3;replace c4:=(hK _ _ bX).trans c4;replace c5:=(hK _ _ bX).trans c5;replace d0:=(hK _ _ cI).trans d0;replace d1:=(hK _ _ cI).trans d1;replace d2:=(hK _ _ cI).trans d2;replace d3:=(hK _ _ cI).trans d3;replace d4:=(hK _ _ cI).trans d4;replace d5:=(hK _ _ cI).trans d5;replace d6:=(hK _ _ cI).trans d6;clear hK;go_wp2;go_ret
   exact ⟨Al,cl,Gl,rfl,nu.mono J,bF⟩
def eV {α:Type} (i:Nat) (x:α) (xs:List α):List α:=xs.take i++x :: xs.drop i
theorem xf {α:Type} (i:Nat) (x:α) (xs:List α):(eV i x xs).length = xs.length+1:=by simp [eV];omega
theorem aY.ins {α:Type} [ax α] {w:World} {B:Nat} {xs:List α} {x:α} {ds cs:List Value} {F G:List Nat} (h:aY w B xs ds F) (hx:ai w B x cs G) (hd:∀y∈F,y∉G) (i:Nat) (hi:i<=xs.length) :
 ∃F',aY w B (eV i x xs) (ds.take (i * ax.size α)++(cs++ds.drop (i * ax.size α))) F'/\(∀y∈F',y∈F∨y∈G):=by
 obtain ⟨hr,hn,hb,hp⟩:=h;rw [<- List.take_append_drop i xs] at hr;obtain ⟨d1,d2,F1,F2,rfl,rfl,h1,h2⟩:=jo.gF hr;have hl:d1.length = i * ax.size α:=by rw [h1.len,List.length_take,Nat.min_eq_left hi]
 rw [<- hl,List.take_left,List.drop_left];have UT:=List.nodup_append.1 hn;have bi:∀y∈F1++(G++F2),y∈F1++F2∨y∈G:=λy hy=>by
  simp only [List.mem_append] at hy |-;rcases hy with hy | hy | hy <;> simp [hy]
 refine ⟨F1++(G++F2),⟨h1.append ⟨cs,d2,G,F2,rfl,rfl,hx.rd,h2⟩,?_,λy hy=>?_,λy hy=>?_⟩,bi⟩
 ·rw [List.nodup_append,List.nodup_append];refine ⟨UT.1,⟨hx.nodup,UT.2.1,λa ha b dP e=>hd b (List.mem_append_right _ dP) (e ▸ ha)⟩,λa ha b dP e=>?_⟩;rcases List.mem_append.1 dP with dP | dP
  ·exact hd a (List.mem_append_left _ ha) (e ▸ dP)
  ·exact UT.2.2 a ha b dP e
 ·rcases bi y hy with hy | hy
  ·exact hb y hy
  ·exact hx.base y hy
 ·rcases bi y hy with hy | hy
  ·exact hp y hy
  ·exact hx.plain y hy
theorem ai.Kw {α:Type} [ax α] {w:World} {B:Nat} {xs:List α} {ds:List Value} {F:List Nat} {e:TypeId} {v:Value} (h0:w.ownsRow B e (ax.size α) v xs.length ds) (h:aY w B xs ds F) (bI:∀g,v.ownBlock = some g->g∉F):∃A c G,v = .slice A xs.length c/\ai w B xs [.slice A xs.length c] G/\∀y∈G,y∈F∨v.ownBlock = some y:=by
 exact K7
def cE (x:ao):List Value:=[.string x.key,.string x.value]
def iZ (x:iU):List Value:=[.string x.key,.string x.value,.int .i64 x.effect]
def ix (x:bH):List Value:=[.string x.key,.bool x.equal,.string x.value,.int .i64 x.effect]
section
variable {β:Type} {row:β->List Value} {S:Nat}
theorem xv (hS:∀x,(row x).length = S):∀(D:List β) (k:Nat) (x:β),D[k]? = some x->∀(j:Nat) (u:Value),(row x)[j]? = some u->(D.flatMap row)[k * S+j]? = some u
 | [],_,_,h,_,_,_=>by simp at h
 | r :: rs,0,x,h,j,u,hj=>by
   exact Mo
 | r :: rs,k+1,x,h,j,u,hj=>by
   rw [List.getElem?_cons_succ] at h;have hr:=hS r;have hk:(k+1) * S+j = k * S+j+S:=(by rw [Nat.succ_mul];omega);rw [List.flatMap_cons,List.getElem?_append_right J,hr,show (k+1) * S+j - S = k * S+j by omega];exact xv hS rs k x h j u hj
theorem nj (hS:∀x,(row x).length = S):∀D:List β,(D.flatMap row).length = D.length * S
 | []=>by simp
 | r :: rs=>by rw [List.flatMap_cons,List.length_append,hS,nj hS rs,List.length_cons,Nat.succ_mul];omega
theorem pH (h1:∀x,∀u∈row x,u.oneCell' = true) (D:List β):∀u∈D.flatMap row,u.oneCell' = true:=λu hu=>by
 obtain ⟨x,_,hx⟩:=List.mem_flatMap.1 hu;exact h1 x u hx
theorem VG [ax β] {w:World} {B e g cap:Nat} (hd:ax.size β = S) (D:List β) (h:w.ownsRow B e S (.slice (some ⟨g,0,none⟩) D.length cap) D.length (D.flatMap row)) (hr:∀x∈D,rd w x (row x) []):∃A c G,Value.slice (some ⟨g,0,none⟩) D.length cap = .slice A D.length c/\ai w B D [.slice A D.length c] G:=by
 subst hd;have cH:∀D:List β,(∀x∈D,rd w x (row x) [])->jo w D (D.flatMap row) []:=λD=>by
  induction D with
  | nil=>intro _;exact ⟨rfl,rfl⟩
  | cons x D ih=>intro hD;exact ⟨row x,D.flatMap row,[],[],rfl,rfl,hD x (List.mem_cons_self ..),ih λy hy=>hD y (List.mem_cons_of_mem _ hy)⟩
 exact ME
end
theorem AS (x:ao):∀u∈cE x,u.oneCell' = true:=by intro u hu;simp only [cE,List.mem_cons,List.not_mem_nil,or_false] at hu;rcases hu with rfl | rfl <;> rfl
theorem AR (x:iU):∀u∈iZ x,u.oneCell' = true:=by intro u hu;simp only [iZ,List.mem_cons,List.not_mem_nil,or_false] at hu;rcases hu with rfl | rfl | rfl <;> rfl
theorem AP (x:bH):∀u∈ix x,u.oneCell' = true:=by intro u hu;simp only [ix,List.mem_cons,List.not_mem_nil,or_false] at hu;rcases hu with rfl | rfl | rfl | rfl <;> rfl
section
theorem ez (W0 w:World) (b o c N:Nat) (p u m v q:List ao) (a bb n:Nat) (f:Value) (h:jJ cE 2 W0 w b o (p++(u++(m++(v++q))))) (hN:(p++(u++(m++(v++q)))).length<=N) (BI:N<=1048576) (ha:Hid (p.length = a)) (hu:Hid (u.length = n)) (hv:Hid (v.length = n)) (hm:Hid (p.length+u.length+m.length = bb)) :
 Calls Tryz.prog 242 #[.slice (some ⟨b,o,none⟩) N c,.int .i64 a,.int .i64 bb,.int .i64 n,f] w λe w'=>e = .returned (.tuple #[])/\jJ cE 2 W0 w' b o (p++(v++(m++(u++q)))):=by
 have bE:a+n+m.length+n<=N:=by have e1:=ha.out;have e2:=hu.out;have e3:=hv.out;simp only [List.length_append] at hN;omega
 have pL:bb = a+n+m.length:=by have e1:=ha.out;have e2:=hu.out;have e3:=hm.out;omega
 have xl:=I pL;have aR:a+n<=bb:=by omega
 have am:bb+n<=N:=by omega
 clear pL;go_enter Tryz.func242,Tryz.ntmps242;go_wp2_with fail
 go_loopw [10] (λi wr=>∃k:Nat,k<=n/\i = .int .i64 k/\jJ cE 2 W0 wr b o (p++(v.take k++(u.drop k++(m++(u.take k++(v.drop k++q))))))) (λi _=>n - (intOf i).toNat)
 case atStart=>exact ⟨0,Nat.zero_le _,rfl,by simpa using h⟩
 case round =>
  obtain ⟨k,hk,rfl,hS⟩:=hrel;by_cases ap:k < n
  ·have hku:k < u.length:=(by have:=hu.out;omega);have Hj:k < v.length:=(by have:=hv.out;omega);have SM:u.length = v.length:=(by rw [hu.out,hv.out]);have gl:=am2 p u m v q k hku SM;have gr:=ajg p u m v q k Hj SM;have sg:=am1 p u m v q k hku SM;rw [hm.out] at gr sg;rw [ha.out] at gl sg;generalize u[k] = x at gl;generalize v[k] = y at gr;have HS:=I hS;have Ao:wr.cell? ⟨b,o+(a+k) * 2,none⟩ = some (.string x.key):=hS.tab _ x gl 0 _ rfl;have Aw:wr.cell? ⟨b,o+(a+k) * 2+1,none⟩ = some (.string x.value):=hS.tab _ x gl 1 _ rfl;have tQ:wr.cell? ⟨b,o+(bb+k) * 2,none⟩ = some (.string y.key):=hS.tab _ y gr 0 _ rfl;have tR:wr.cell? ⟨b,o+(bb+k) * 2+1,none⟩ = some (.string y.value):=hS.tab _ y gr 1 _ rfl;have qf:=hS.plain.frozen;have ql:=hS.plain.lt;have H9:=I gl;have HGR:=I gr;have HSG:=I sg;clear hS gl gr sg SM;go_wp2_with fail
   go_region
   go_wp2;have h2:=HS.out.swap_ (λ_=>rfl) H9.out HGR.out;rw [HSG.out] at h2;exact ⟨⟨k+1,J,N',jJ.ext h2 (aA (aj _))⟩,by simp [intOf];omega⟩
  ·have bz:k = n:=J;subst bz;rw [<- hu.out,List.take_of_length_le awC,List.drop_length,List.take_length,List.drop_of_length_le awC,List.nil_append,List.nil_append] at hS;go_wp2;go_end0
   exact ⟨rfl,hS⟩
theorem eJ (W0 w:World) (b o c N:Nat) (p u v q:List ao) (a mm bb:Nat) (f:Value) (h:jJ cE 2 W0 w b o (p++(u++(v++q)))) (hN:(p++(u++(v++q))).length<=N) (BI:N<=1048576) (ha:Hid (p.length = a)) (hm:Hid (a+u.length = mm)) (hb:Hid (mm+v.length = bb)) (hu0:0 < u.length) (ic:0 < v.length) :
 Calls Tryz.prog 221 #[.slice (some ⟨b,o,none⟩) N c,.int .i64 a,.int .i64 mm,.int .i64 bb,f] w λe w'=>e = .returned (.tuple #[])/\jJ cE 2 W0 w' b o (p++(v++(u++q))):=by
 have bE:a+u.length+v.length<=N:=by have e1:=ha.out;simp only [List.length_append] at hN;omega
 have Pc:a+u.length = mm:=hm.out;have pL:mm+v.length = bb:=hb.out;have HM:=I Pc;have HB:=I pL;have h1:a<=mm:=by omega
 have h2:mm<=bb:=by omega
 have h3:bb<=N:=by omega
 have MO:=I hN;clear Pc pL hN;go_enter Tryz.func221,Tryz.ntmps221;go_wp2_with fail
 go_loopw [10,11] (λi j wr=>∃A U V B:List ao,i = .int .i64 U.length/\j = .int .i64 V.length/\0 < U.length/\0 < V.length/\Hid (v++u = A++(V++(U++B)))/\Hid (p.length+A.length+U.length = mm)/\jJ cE 2 W0 wr b o (p++(A++(U++(V++(B++q)))))) (λi j _=>(intOf i).toNat+(intOf j).toNat)
 case atStart =>have e1:=ha.out;have e2:=HM.out;have e3:=HB.out;exact ⟨[],u,v,[],by simp;omega,by simp;omega,hu0,ic,I S',I (by simp;omega),by simpa using h⟩
 case round =>
  obtain ⟨A,U,V,B,rfl,rfl,hU,hV,hE,hP,hS⟩:=hrel;have eW:A.length+U.length+V.length+B.length = u.length+v.length:=by have:=congrArg List.length hE.out;simp only [List.length_append] at this;omega
  have Cg:p.length+A.length+U.length = mm:=hP.out;have hUm:U.length<=mm:=by omega
  have bs:mm+V.length<=N:=by have e1:=ha.out;have e2:=HM.out;omega
  have Yh:=I eW;have P7:=I Cg;have HS:=I hS;clear eW Cg hS;have SN:(p++(u++(v++q))).length = p.length+u.length+v.length+q.length:=by simp only [List.length_append];omega
  have Yi:=I SN;clear SN;rcases Nat.lt_trichotomy U.length V.length with ap | DS | uP
  ·have bI:((U.length:Int) != V.length) = true:=(by simp;omega);go_wp2_with fail
   obtain ⟨V1,V2,rfl,hV2⟩:∃V1 V2,V = V1++V2/\V2.length = U.length:=⟨V.take (V.length - U.length),V.drop (V.length - U.length),(List.take_append_drop ..).symm,by rw [List.length_drop];omega⟩;have Cg:=P7.out;have eW:=Yh.out;have hl:(V1++V2).length = V1.length+V2.length:=List.length_append ..;rw [show (mm:Int) - U.length = ((p.length+A.length:Nat):Int) by omega,show (mm:Int)+(V1++V2).length - U.length = ((mm+V1.length:Nat):Int) by omega];refine (ez W0 wr b o c N (p++A) U V1 V2 (B++q) (p.length+A.length) (mm+V1.length) U.length f T7 ?_ BI (I S') (I rfl) (I hV2) (I ?_)).mono ?_
   ·have:=MO.out;have:=Yi.out;simp only [List.length_append] at *;omega
   ·simp only [List.length_append];omega
   rintro e w2 ⟨rfl,bS⟩;clear Cg eW;go_wp2;refine ⟨⟨A,V2,V1,U++B,by rw [hV2],by first | rfl | (congr 1;omega),J,J,I awD,I (by have:=P7.out;omega),by simpa [List.append_assoc] using bS⟩,by simp only [intOf];omega⟩
  ·have bI:((U.length:Int) != V.length) = false:=(by simp;omega);go_wp2_with fail
   have Cg:=P7.out;have eW:=Yh.out;rw [show (mm:Int) - V.length = ((p.length+A.length:Nat):Int) by omega];refine (ez W0 wr b o c N (p++A) U [] V (B++q) (p.length+A.length) mm V.length f T7 ?_ BI (I S') (I DS) (I rfl) (I ?_)).mono ?_
   ·have:=MO.out;have:=Yi.out;simp only [List.length_append,List.length_nil] at *;omega
   ·simp only [List.length_append,List.length_nil];omega
   rintro e w2 ⟨rfl,bS⟩;clear Cg eW DS;go_wp2;go_end0
   refine ⟨rfl,?_⟩;have e9:p++(v++(u++q)) = (p++A)++(V++([]++(U++(B++q)))):=(by rw [<- List.append_assoc v u q,hE.out];simp [List.append_assoc]);rw [e9];exact bS
  ·have bI:((U.length:Int) != V.length) = true:=(by simp;omega);go_wp2_with fail
   obtain ⟨U1,U2,rfl,hU1⟩:∃U1 U2,U = U1++U2/\U1.length = V.length:=⟨U.take V.length,U.drop V.length,(List.take_append_drop ..).symm,by rw [List.length_take];omega⟩;have Cg:=P7.out;have eW:=Yh.out;have hl:(U1++U2).length = U1.length+U2.length:=List.length_append ..;rw [show (mm:Int) - (U1++U2).length = ((p.length+A.length:Nat):Int) by omega];refine (ez W0 wr b o c N (p++A) U1 U2 V (B++q) (p.length+A.length) mm V.length f T7 ?_ BI (I S') (I hU1) (I rfl) (I ?_)).mono ?_
   ·have:=MO.out;have:=Yi.out;simp only [List.length_append] at *;omega
   ·simp only [List.length_append];omega
   rintro e w2 ⟨rfl,bS⟩;clear Cg eW;go_wp2;refine ⟨⟨A++V,U2,U1,B,by first | rfl | (congr 1;omega),by rw [hU1],J,J,I awD,I (by have:=P7.out;simp only [List.length_append] at *;omega),by simpa [List.append_assoc] using bS⟩,by simp only [intOf];omega⟩
end
theorem aEt (D:List ByteArray) {w:World} {B e g cap:Nat} (h:w.ownsRow B e 1 (.slice (some ⟨g,0,none⟩) D.length cap) D.length (D.map Value.string)) (hr:∀x∈D,rd w x [.string x] []):∃A c G,Value.slice (some ⟨g,0,none⟩) D.length cap = .slice A D.length c/\ai w B D [.slice A D.length c] G:=by
 have cH:∀D:List ByteArray,(∀x∈D,rd w x [.string x] [])->jo w D (D.map Value.string) []:=λD=>by
  induction D with
  | nil=>intro _;exact ⟨rfl,rfl⟩
  | cons x D ih=>intro hD;exact ⟨[.string x],D.map Value.string,[],[],rfl,rfl,hD x (List.mem_cons_self ..),ih λy hy=>hD y (List.mem_cons_of_mem _ hy)⟩
 exact ME
theorem aJU (xs:List ByteArray) (A:Option Addr) (c:Nat) (F:List Nat) (w:World) (h:Sl w xs A c F) (hl:(xs.length:Int)<=1048576) :
 Calls Tryz.prog 142 #[.slice A xs.length c] w λe w'=>∃A' c' G,e = .returned (.slice A' (gm xs).length c')/\ai w' w.heap.size (gm xs) [.slice A' (gm xs).length c'] G/\Below w.heap.size w w'/\fe w' w.heap.size 9 1 A' c':=by
 have t8:=I (show ∀x∈xs,∀w':World,rd w' x [.string x] [] from λx hx w'=>by
  obtain ⟨k,hk,rfl⟩:=List.getElem_of_mem hx;obtain ⟨b,o,ck,Fk,_,_,_,hr,_,_⟩:=h.get hk;obtain ⟨h1,h2,h3⟩:=hr
  exact ⟨rfl,rfl,h3⟩)
 go_enter Tryz.func142,Tryz.ntmps142;go_wp2_with fail
 go_loopw [3,4] (λv i wr=>∃k N g cap:Nat,k<=xs.length/\N<=k/\i = .int .i64 (k:Int)/\v = .slice (some ⟨g,0,none⟩) N cap/\Hid ((gm (xs.take k)).length = N)/\wr.ownsRow w.heap.size 9 1 (.slice (some ⟨g,0,none⟩) N cap) N ((gm (xs.take k)).map Value.string)/\Below w.heap.size w wr) (λ_ i _=>xs.length - (intOf i).toNat)
 case atStart=>exact ⟨0,0,w.heap.size,0,J,Nat.le_refl _,rfl,rfl,I rfl,D9 w 9 1 w.heap.size rfl,ak (aj _) _⟩
 case round =>
  obtain ⟨k,N,g,cap,hk,hNk,rfl,rfl,cW,bB,aM⟩:=hrel;by_cases ap:k < xs.length
  ·obtain ⟨wo,hwo⟩:∃wo,wo = wr:=⟨_,rfl⟩;subst hwo;obtain ⟨b,o,ck,Fk,hA,hbG,hbs,aJe,_,hcells⟩:=Sl.get h ap;subst hA;have eh:gm (xs.take (k+1)) = eA blt xs[k] (gm (xs.take k)):=(by unfold gm;rw [List.take_succ_eq_append_getElem ap,I6]);obtain ⟨y,hy⟩:∃y,xs[k] = y:=⟨_,rfl⟩;rw [hy] at aJe eh;obtain ⟨ar,_,_⟩:=aJe;subst ar;have k0:wo.cell? ⟨b,o+k,none⟩ = some (.string y):=r' aM (by have:=hcells 0 _ rfl;simpa [show ax.size ByteArray = 1 from rfl] using this) hbs;have Jf:=I eh;clear hcells hy eh;generalize gm (xs.take k) = SS at *;obtain ⟨tE,fT,rN,hgc⟩:=IE bB;have R9:w.heap.size<=wo.heap.size:=aM.size;have fq:b < wo.heap.size:=J;have nA:=I hgc;have jD:=I bB;have fv:=I aM;clear hgc bB aM;go_wp2_with fail
   go_loopw [5] (λj wr=>∃(s1 s2:List ByteArray) (jj:Nat),Hid (SS = s1++s2)/\j = .int .i64 (jj:Int)/\Hid (s1.length = jj)/\Hid (∀z∈s1,blt z y = true)/\Below wo.heap.size wo wr) (λj _=>N - (intOf j).toNat)
   case atStart=>exact ⟨[],SS,0,I rfl,rfl,I rfl,I (λz hz=>by cases hz),aj _⟩
   case round =>
    obtain ⟨s1,s2,jj,HE,rfl,HJ,HN,bC⟩:=hrel;have mc:∀bq oq u,wo.cell? ⟨bq,oq,none⟩ = some u->bq < wo.heap.size->wr.cell? ⟨bq,oq,none⟩ = some u:=λbq oq u h1 h2=>(bC.cell (p:=⟨bq,oq,none⟩) h2).trans h1;replace k0:=mc _ _ _ k0 fq;have MC:=I mc;have qa:wo.heap.size<=wr.heap.size:=bC.size;have pI:b < wr.heap.size:=J;have mL:g < wr.heap.size:=J;clear mc;cases s2 with
    | nil =>
      have fI:jj = N:=(by have e1:=HE.out;have e2:=cW.out;have e3:=HJ.out;rw [e1,List.append_nil] at e2;omega);have sE:N<=jj:=J;have sF:decide ((jj:Int) < (N:Int)) = false:=(by simp;omega);have sH:decide (jj < N) = false:=(by simp;omega);clear fI;have HI:=I (show eA blt y (SS) = s1++y :: [] by rw [HE.out];exact QQ s1 HN.out);go_wp2_with fail
      refine aF wr U' U' (aj _) ?_
      repeat ((first | refine aG J' ?_ | refine aH _ J' cZ ?_);simp only [Act.put,pz])
      refine aN ?_;intro wm hn;replace hn:=hn.out;have kz:Below wo.heap.size wo wm:=ah bC hn;have jz:g < wm.heap.size:=(by have:=hn.size;omega);have kA:b < wm.heap.size:=(by have:=hn.size;omega);replace k0:=r' hn k0 eD;clear bC hn;obtain ⟨bC,pI,mL⟩:Below wo.heap.size wo wm/\b < wm.heap.size/\g < wm.heap.size:=⟨kz,kA,jz⟩;clear kz kA jz;go_wp2_with fail
      refine aF wm U' U' (aj _) ?_
      repeat ((first | refine aG J' ?_ | refine aH _ J' cZ ?_);simp only [Act.put,pz])
      refine aN ?_;intro wn hn;replace hn:=hn.out;have bs:Below wo.heap.size wo wn:=ah bC hn;have nZ:=I (show Below w.heap.size w wn from ah fv.out bs);have RJ:=mG jD.out bs;obtain ⟨_,fy,apy,V4⟩:=IE RJ
      have eK:=I (show ∀q u,((s1).map Value.string)[q]? = some u->wn.cell? ((⟨g,0,none⟩:Addr).add q) = some u from λq u hu=>by
       rw [Addr.add_lit,Nat.zero_add];refine V4 q u ?_
       rw [HE.out,List.map_append,List.getElem?_append_left (List.getElem?_eq_some_iff.1 hu).1];exact hu)
      have Gn:=I (show ∀q u,((([]:List ByteArray)).map Value.string)[q]? = some u->wn.cell? ⟨g,jj+q,none⟩ = some u from λq u hu=>by
       refine V4 (jj+q) u ?_
       rw [HE.out,List.map_append,List.getElem?_append_right EH,List.length_map,HJ.out,Nat.add_sub_cancel_left];exact hu)
      have cA:jj+(([]:List ByteArray)).length = N:=(by have e1:=congrArg List.length HE.out;have e2:=cW.out;have e3:=HJ.out;rw [List.length_append] at e1;omega);have rp:jj<=N:=J;have pv:jj<=cap:=J;replace k0:=r' hn k0 eD;have rR:b < wn.heap.size:=(by have:=hn.size;omega);have lH:=I cA;have kd:=I bs;clear RJ V4 cA bs;go_wp2_with fail
      refine zU wn 12 U' U' (aj _) ?_;refine YU (λa0 a' w'=>∃(g9 p9:Nat) (dj dl dm dp dq dr dt ed eQ eR:Value),a' = (Act.put (Act.put (Act.put (Act.put (Act.put (Act.put (Act.put (Act.put (Act.put (Act.put (Act.put (Act.put a0 (some 46) (dj)) (some 47) (dl)) (some 48) (dm)) (some 49) (dp)) (some 50) (dq)) (some 51) (dr)) (some 52) (dt)) (some 53) (ed)) (some 54) (eQ)) (some 55) (eR)) (some 56) (.slice (some ⟨g9,0,none⟩) (jj+1) p9)) (some 6) (.slice (some ⟨g9,0,none⟩) (jj+1) p9))/\Below wn.heap.size wn w'/\World.ownsRow w' wn.heap.size 9 1 (.slice (some ⟨g9,0,none⟩) (jj+1) p9) (jj+1) (((s1).map Value.string)++[.string y])) ?_ ?_;rotate_left
      ·exact M0
      intro a' w7 ga;obtain ⟨g9,p9,dj,dl,dm,dp,dq,dr,dt,ed,eQ,eR,rfl,bw,nK⟩:=ga;try simp only [Act.put,pz]
      have cC:∃A0:Addr,(if cap = jj then some (⟨g,0,none⟩:Addr) else some ⟨g,jj,none⟩) = some A0/\Hid (A0.block = g/\∀q u,((([]:List ByteArray)).map Value.string)[q]? = some u->w7.cell? (A0.add q) = some u):=by exact NE
      obtain ⟨A0,hA0,asg⟩:=cC;have bz:N - jj = (([]:List ByteArray)).length:=(by have:=lH.out;omega);have pp:=I bz;clear bz
      go_wp2_with (
       at_builtin
       go_must (refine xW qw J' _ _ J' w7 wn.heap.size _ _ _ nK J' A0 0 (cap - jj) ((([]:List ByteArray)).map Value.string) J' J' asg.out.2 (λu hu=>by obtain ⟨z0,_,rfl⟩:=List.mem_map.1 hu;rfl) J J ni ?_)
       intro v8 w8 Le da mQ;rw [show jj+1+0 = N+1 by omega] at Le;obtain ⟨g8,p8,hv8,aJs,aJt,aJu⟩:=wW Le J
       subst hv8)
      exact Nr
    | cons z s2 =>
      have fI:jj < N:=(by have e1:=congrArg List.length HE.out;have e2:=cW.out;have e3:=HJ.out;rw [List.length_append,List.length_cons] at e1;omega);have z0:wr.cell? ⟨g,jj,none⟩ = some (.string z):=MC.out _ _ _ (nA.out jj _ Uj) fT;have sF:decide ((jj:Int) < (N:Int)) = true:=(by simp;omega);cases hL:Op.bytesLess z.toList y.toList with
      | true =>have HL:=I (show blt z y = true from hL);exact Nd
      | false =>
        have HL:=I (show blt z y = false from hL);go_wp2_with fail
        refine aF wr U' U' (aj _) ?_
        repeat ((first | refine aG J' ?_ | refine aH _ J' cZ ?_);simp only [Act.put,pz])
        refine aN ?_;intro wm hn;replace hn:=hn.out;have kz:Below wo.heap.size wo wm:=ah bC hn;have jz:g < wm.heap.size:=(by have:=hn.size;omega);have kA:b < wm.heap.size:=(by have:=hn.size;omega);replace k0:=r' hn k0 eD;replace z0:=r' hn z0 uB;clear bC hn;obtain ⟨bC,pI,mL⟩:Below wo.heap.size wo wm/\b < wm.heap.size/\g < wm.heap.size:=⟨kz,kA,jz⟩;clear kz kA jz;clear hL;cases hE:(z.toList == y.toList) with
        | true =>
          have HI:=I (show eA blt y (SS) = SS by rw [HE.out];exact QT s1 s2 HN.out HL.out (by rw [Ce hE];exact vo.re y));go_wp2_with fail
          refine aF wm U' U' (aj _) ?_
          repeat ((first | refine aG J' ?_ | refine aH _ J' cZ ?_);simp only [Act.put,pz])
          refine aN ?_;intro wn hn;replace hn:=hn.out;exact LL
        | false =>
          have HG:=I (show blt y z = true by
           cases hh:blt y z with
           | true=>rfl
           | false=>have:=vo.xR z y HL.out hh;rw [this] at hE;simp at hE)
          have HI:=I (show eA blt y (SS) = s1++y :: (z :: s2) by rw [HE.out];exact QR s1 s2 HN.out HL.out HG.out);go_wp2_with fail
          refine aF wm U' U' (aj _) ?_
          repeat ((first | refine aG J' ?_ | refine aH _ J' cZ ?_);simp only [Act.put,pz])
          refine aN ?_;intro wn hn;replace hn:=hn.out;clear hE;have bs:Below wo.heap.size wo wn:=ah bC hn;have nZ:=I (show Below w.heap.size w wn from ah fv.out bs);have RJ:=mG jD.out bs;obtain ⟨_,fy,apy,V4⟩:=IE RJ
          have eK:=I (show ∀q u,((s1).map Value.string)[q]? = some u->wn.cell? ((⟨g,0,none⟩:Addr).add q) = some u from λq u hu=>by
           rw [Addr.add_lit,Nat.zero_add];refine V4 q u ?_
           rw [HE.out,List.map_append,List.getElem?_append_left (List.getElem?_eq_some_iff.1 hu).1];exact hu)
          have Gn:=I (show ∀q u,((z :: s2).map Value.string)[q]? = some u->wn.cell? ⟨g,jj+q,none⟩ = some u from λq u hu=>by
           refine V4 (jj+q) u ?_
           rw [HE.out,List.map_append,List.getElem?_append_right EH,List.length_map,HJ.out,Nat.add_sub_cancel_left];exact hu)
          have cA:jj+(z :: s2).length = N:=(by have e1:=congrArg List.length HE.out;have e2:=cW.out;have e3:=HJ.out;rw [List.length_append] at e1;omega);have rp:jj<=N:=J;have pv:jj<=cap:=J;have Sa:¬cap = jj:=J;replace k0:=r' hn k0 eD;have rR:b < wn.heap.size:=(by have:=hn.size;omega);have lH:=I cA;have kd:=I bs;clear RJ V4 cA bs;go_wp2_with fail
          refine zU wn 12 U' U' (aj _) ?_;refine YU (λa0 a' w'=>∃(g9 p9:Nat) (dj dl dm dp dq dr dt ed eQ eR:Value),a' = (Act.put (Act.put (Act.put (Act.put (Act.put (Act.put (Act.put (Act.put (Act.put (Act.put (Act.put (Act.put a0 (some 46) (dj)) (some 47) (dl)) (some 48) (dm)) (some 49) (dp)) (some 50) (dq)) (some 51) (dr)) (some 52) (dt)) (some 53) (ed)) (some 54) (eQ)) (some 55) (eR)) (some 56) (.slice (some ⟨g9,0,none⟩) (jj+1) p9)) (some 6) (.slice (some ⟨g9,0,none⟩) (jj+1) p9))/\Below wn.heap.size wn w'/\World.ownsRow w' wn.heap.size 9 1 (.slice (some ⟨g9,0,none⟩) (jj+1) p9) (jj+1) (((s1).map Value.string)++[.string y])) ?_ ?_;rotate_left
          ·exact M0
          intro a' w7 ga;obtain ⟨g9,p9,dj,dl,dm,dp,dq,dr,dt,ed,eQ,eR,rfl,bw,nK⟩:=ga;try simp only [Act.put,pz]
          have bz:N - jj = (z :: s2).length:=(by have:=lH.out;omega);have pp:=I bz;clear bz
          go_wp2_with (
           at_builtin
           go_must (refine xW qw J' _ _ J' w7 wn.heap.size _ _ _ nK J' ⟨g,jj,none⟩ (N - jj) (cap - jj) ((z :: s2).map Value.string) J' RE (λq u hu=>by rw [Addr.add_lit];exact (bw.cell (p:=⟨g,jj+q,none⟩) fy).trans (Gn.out q u hu)) (λu hu=>by obtain ⟨z0,_,rfl⟩:=List.mem_map.1 hu;rfl) J J ni ?_)
           intro v8 w8 Le da mQ;rw [show jj+1+(N - jj) = N+1 by omega] at Le;obtain ⟨g8,p8,hv8,aJs,aJt,aJu⟩:=wW Le J
           subst hv8)
          exact Nr
  ·have bz:k = xs.length:=J;subst bz;rw [List.take_length] at bB cW;rw [<- cW.out] at bB;obtain ⟨A4,c4,G4,hv4,hO4⟩:=aEt (gm xs) bB (λx hx=>t8.out x (aA4 hx) wr);rw [cW.out] at hv4;simp only [Value.slice.injEq,true_and] at hv4;obtain ⟨zn,ee⟩:=hv4;subst zn ee;have ng:=I hO4;have n9:=I (fe.oJ bB (Nat.le_refl _));clear bB hO4;go_wp2;go_ret
   exact ⟨some ⟨g,0,none⟩,cap,G4,by rw [cW.out];try rfl,ng.out,aM,n9.out⟩
theorem aAw (xs:List ByteArray) (A:Option Addr) (c:Nat) (F:List Nat) (w:World) (h:Sl w xs A c F) (hl:(xs.length:Int)<=1048576) :
 Calls Tryz.prog 142 #[.slice A xs.length c] w λe w'=>∃A' c' G,e = .returned (.slice A' (gm xs).length c')/\ai w' w.heap.size (gm xs) [.slice A' (gm xs).length c'] G/\Below w.heap.size w w' :=
 (aJU xs A c F w h hl).mono λ_ _ ⟨A',c',G,a,b,d,_⟩=>⟨A',c',G,a,b,d⟩
end Go.Proofs.YtdegaofigemegaaGreat
