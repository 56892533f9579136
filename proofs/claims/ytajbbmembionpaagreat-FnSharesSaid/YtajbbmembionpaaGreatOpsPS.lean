/- DeletePod, of the reference. No condition. -/
import Derived.Test.YtajbbmembionpaaGreatKeepO
namespace Go.Proofs.YtajbbmembionpaaGreat
open Go.ChangeShapes Go.WideShapes Go.ChangeAt Go.RowKit
set_option linter.unusedVariables false
set_option linter.unusedSimpArgs false
set_option maxHeartbeats 4000000
set_option maxRecDepth 100000
theorem RD {P:Program} {t e:TypeId} {z:Value} {size bytes:Nat} (hE:DL P t e z size bytes) {o:Oper} {a:Act} {K:Act→World→Prop} {Q:Exit→Act→World→Prop} (s x:Operand)
 (ho:o.op = .call { callee:=.builtin .append,args:=#[s,x],argTypes:=#[t,t] })
 (w:World) (base:Nat) (v:Value) (n:Nat) (xs:List Value) (bk:w.ownsRow base e size v n xs) (hs:a.eval s = v)
 (ad:Addr) (m c:Nat) (fr:List Value) (hx:a.eval x = .slice (some ad) m c) (hl:fr.length = m * size) (i8:∀j u,fr[j]? = some u→w.cell? (ad.add j) = some u) (h1:∀u∈fr,u.oneCell' = true)
 (Z:n+m≤2097152) (mU:bytes≤4096) (dk:base≤w.heap.size)
 (h:∀v' w',w'.ownsRow base e size v' (n+m) (xs++fr)→w.grownBy w' v.ownBlock→(v'.ownBlock = v.ownBlock∨v'.ownBlock = some w.heap.size)→K (a.put o.dst v') w'):o.wp P a w K Q:=by
 obtain ⟨ht,hi0,lB,gT⟩:=hE;obtain ⟨i,hi,hz,hsize,X⟩:=info_parts hi0;have i7:(n+m) * bytes≤2097152 * 4096:=Nat.mul_le_mul Z mU;obtain ⟨v',w',hr,h2,h3,h4,h5⟩:=run_append_own_at (P:=P) w base t o.type e i z size bytes ht hi hz hsize X lB gT v n xs bk ad m c fr hl i8 h1 kD J dk;unfold Oper.wp execOp;simp only [ho,resolve,invoke,builtin,Sem.run_bind,Sem.run_pure,Result.andThen_ok,List.map_toArray,List.map_cons,List.map_nil,hs,hx,hr];exact h v' w' h2 h3 h5
theorem am.TI {α:Type} [bc α] {w:World} {B:Nat} {xs:List α} {ds:List Value} {F:List Nat} {e:TypeId} {v:Value} (h0:w.ownsRow B e (bc.size α) v xs.length ds) (h:aY w B xs ds F) (b4:∀g,v.ownBlock = some g→g∉F):∃A c G,v = .slice A xs.length c∧am w B xs [.slice A xs.length c] G∧∀y∈G,y∈F∨v.ownBlock = some y:=by
 exact CR
theorem zr {α:Type} [bc α] {w:World} {B c i:Nat} {u:Value} {x:α} {cs:List Value} {F:List Nat} (h:am w B x cs F) (hF:∀y∈F,y≠c):am (w.setCell ⟨c,i,none⟩ u) B x cs F :=
 h.bs (fun y hy=>Below.heap_setCell _ _ _ _ x9) eC
theorem am.TJ {α:Type} [bc α] {w:World} {B c:Nat} {xs:List α} {A:Option Addr} {F:List Nat} (h:am w B xs [.slice A xs.length c] F) {i:Nat} (hi:i < xs.length) :
 ∃b o ds G,A = some ⟨b,o,none⟩∧b∈F∧b < w.heap.size∧xs.length≤c∧c≤maxLen∧ds.length = xs.length * bc.size α∧(∀u∈ds,u.oneCell' = true)∧uF w b o ds ∧
  aY w B (xs.eraseIdx i) (ds.take (i * bc.size α)++ds.drop ((i+1) * bc.size α)) G∧(∀y∈G,y∈F):=by
 obtain ⟨⟨A',c',G,ds,e,d7,cq,hc,h0⟩,hnd,dk,hplain⟩:=h;simp only [List.cons.injEq,Value.slice.injEq,and_true,true_and] at e;obtain ⟨rfl,rfl⟩:=e;rcases h0 with h0 | ⟨b,o,rfl,rfl,X,bE⟩
 ·rw [h0.1] at hi;cases hi
 have nk:=hc.one;have cA:=hc.len;obtain ⟨d1,ck,d2,G1,Fk,G2,rfl,rfl,r1,r2,r3,yf⟩:=hc.split hi;have ER:=bc.len r2;have e1:(d1++(ck++d2)).take (i * bc.size α) = d1:=by rw [← yf,List.take_left]
 have e2:(d1++(ck++d2)).drop ((i+1) * bc.size α) = d2:=by rw [← List.append_assoc,show (i+1) * bc.size α = (d1++ck).length by rw [List.length_append,yf,ER,Nat.succ_mul],List.drop_left]
 simp only [List.nodup_cons,List.nodup_append,List.mem_append,not_or] at hnd;have hx:(xs.eraseIdx i) = xs.take i++xs.drop (i+1):=List.eraseIdx_eq_take_drop_succ ..;have bB:∀y∈G1++G2,y∈b :: (G1++(Fk++G2)):=fun y hy=>by
  rcases List.mem_append.1 hy with hy | hy <;> simp [hy]
 refine ⟨b,o,_,G1++G2,rfl,List.mem_cons_self ..,X,d7,cq,cA,nk,bE,⟨?_,?_,fun y hy=>dk y (bB y hy),fun y hy=>hplain y (bB y hy)⟩,bB⟩
 ·rw [hx,e1,e2];exact r1.append r3
 ·rw [List.nodup_append];exact ⟨hnd.2.1,hnd.2.2.1.2.1,fun x hx y hy=>hnd.2.2.2 x hx y (Or.inr hy)⟩
theorem afS (x:aU) (cs:List Value) (F:List Nat) (nm:ByteArray) (w:World) (h:rd w x cs F) (hw:(x.wt:Int)≤1048576) :
 Calls Tryz.prog 106 #[.agg cs.toArray,.string nm] w fun e w'=>∃ds G,e = .returned (.tuple #[.agg ds.toArray,.int .i64 (Ut x nm).2])∧am w' w.heap.size (Ut x nm).1 ds G∧Below w.heap.size w w':=by
 have gp:(x.V.length:Int)≤1048576:=by have h1:=gJ ag.wt x.V;have h2:x.wt = kL ba.wt x.aa+kL ag.wt x.V:=rfl;omega
 have HW:=I hw;have Ji:=I gp;clear hw;have hr:=h;obtain ⟨bG,bD,fQ,dn,bW,jg,aE,qp,bQ,dM,hnext,aV,aP,aW⟩:=aO hr;subst aE;clear qp hr;have Bl:=Nc (p:=CG nm) x.V;cases hc:iI x
 ·have HF:=I (show Ut x nm = (x,1) by unfold Ut;rw [hc];simp);have HC:=I hc;clear hc;obtain ⟨r,du⟩:∃r,pK (CG nm) x.V = r:=⟨_,rfl⟩;have HI:=I du;clear du;go_enter Tryz.func106,Tryz.ntmps106;go_wp2_with fail
  refine (BO x _ _ _ (aZ h b5) HW.out).mono ?_;rintro e w1 ⟨lr,G1,rfl,jX,bo⟩;have cH:=jX.rd;obtain ⟨dG,bV,xq,dS,dJ,Bz,aE,hG1,oO,tq,wI,iV,gI,iW⟩:=aO cH;subst aE;clear hG1 cH;obtain ⟨d7,gc⟩:=ay bo;have VQ:w.heap.size < w1.heap.size:=sq bo.size;have lT:w.heap.size+1 < w1.heap.size:=sq bo.size;have fp:=jX.lt;go_wp2_with fail
  refine (qM x _ _ _ (aZ h b5) HW.out).mono ?_;rw [HC.out];rintro e w2 ⟨rfl,ar⟩;obtain ⟨cq,cL⟩:=ay ar;have VR:w.heap.size < w2.heap.size:=sq ar.size;have lU:w.heap.size+1 < w2.heap.size:=sq ar.size;have VT:w1.heap.size < w2.heap.size:=sq ar.size;have bI:am w2 (w.heap.size+1+1) x [.slice dG x.aa.length bV,.slice dS x.V.length dJ,.int .i64 x.next,.int .i64 x.weights.pack,.int .i64 x.weights.af,.int .i64 x.weights.an] G1:=((jX.mono S').alloc _).ext ar;have RZ:=I bI;clear jX bI h;go_wp2_with fail
  try dsimp only
  iterate 60 (first | go_step | skip)
  refine bodyPost_ret (v:=.tuple #[.agg #[.slice dG x.aa.length bV,.slice dS x.V.length dJ,.int .i64 x.next,.int .i64 x.weights.pack,.int .i64 x.weights.af,.int .i64 x.weights.an],.int .i64 1]) (by simp [results,Tryz.results106,go_sem, *]) rfl ?_;exact te
 ·by_cases sC:pK (CG nm) x.V < 0
  ·have HF:=I (show Ut x nm = (x,3) by unfold Ut;rw [hc,if_pos rfl,if_pos sC]);have HC:=I hc;clear hc;obtain ⟨r,du⟩:∃r,pK (CG nm) x.V = r:=⟨_,rfl⟩;have HI:=I du;rw [du] at sC;clear du;go_enter Tryz.func106,Tryz.ntmps106;go_wp2_with fail
   refine (BO x _ _ _ (aZ h b5) HW.out).mono ?_;rintro e w1 ⟨lr,G1,rfl,jX,bo⟩;have cH:=jX.rd;obtain ⟨dG,bV,xq,dS,dJ,Bz,aE,hG1,oO,tq,wI,iV,gI,iW⟩:=aO cH;subst aE;clear hG1 cH;obtain ⟨d7,gc⟩:=ay bo;have VQ:w.heap.size < w1.heap.size:=sq bo.size;have lT:w.heap.size+1 < w1.heap.size:=sq bo.size;have fp:=jX.lt;go_wp2_with fail
   refine (qM x _ _ _ (aZ h b5) HW.out).mono ?_;rw [HC.out];rintro e w2 ⟨rfl,ar⟩;obtain ⟨cq,cL⟩:=ay ar;have VR:w.heap.size < w2.heap.size:=sq ar.size;have lU:w.heap.size+1 < w2.heap.size:=sq ar.size;have VT:w1.heap.size < w2.heap.size:=sq ar.size;go_wp2_with fail
   refine (Ag x _ _ nm _ (aZ h b5) Ji.out).mono ?_;rw [HI.out];rintro e w3 ⟨rfl,bb⟩;obtain ⟨dm,hf3⟩:=ay bb;have Gk:w.heap.size < w3.heap.size:=sq bb.size;have rq:w.heap.size+1 < w3.heap.size:=sq bb.size;have Gq:w1.heap.size < w3.heap.size:=sq bb.size;have bI:am w3 (w.heap.size+1+1) x [.slice dG x.aa.length bV,.slice dS x.V.length dJ,.int .i64 x.next,.int .i64 x.weights.pack,.int .i64 x.weights.af,.int .i64 x.weights.an] G1:=(((jX.mono S').alloc _).ext ar).ext bb;have RZ:=I bI;clear jX bI h;go_wp2_with fail
   try dsimp only
   iterate 60 (first | go_step | skip)
   refine bodyPost_ret (v:=.tuple #[.agg #[.slice dG x.aa.length bV,.slice dS x.V.length dJ,.int .i64 x.next,.int .i64 x.weights.pack,.int .i64 x.weights.af,.int .i64 x.weights.an],.int .i64 3]) (by simp [results,Tryz.results106,go_sem, *]) rfl ?_;exact te
  ·obtain ⟨k,eV⟩:∃k:Nat,pK (CG nm) x.V = k:=⟨(pK (CG nm) x.V).toNat,J⟩;have hk:k < x.V.length:=J;have HF:=I (show Ut x nm = (⟨x.aa,x.V.eraseIdx k,x.next,x.weights⟩,0) by unfold Ut;rw [hc,if_pos rfl,if_neg J,eV,Int.toNat_natCast]);have HC:=I hc;clear hc;have HI:=I eV;clear eV sC;go_enter Tryz.func106,Tryz.ntmps106;go_wp2_with fail
   refine (BO x _ _ _ (aZ h b5) HW.out).mono ?_;rintro e w1 ⟨lr,G1,rfl,jX,bo⟩;have cH:=jX.rd;obtain ⟨dG,bV,xq,dS,dJ,Bz,aE,hG1,oO,tq,wI,iV,gI,iW⟩:=aO cH;subst aE;clear hG1 cH;obtain ⟨d7,gc⟩:=ay bo;have VQ:w.heap.size < w1.heap.size:=sq bo.size;have lT:w.heap.size+1 < w1.heap.size:=sq bo.size;have fp:=jX.lt;go_wp2_with fail
   refine (qM x _ _ _ (aZ h b5) HW.out).mono ?_;rw [HC.out];rintro e w2 ⟨rfl,ar⟩;obtain ⟨cq,cL⟩:=ay ar;have VR:w.heap.size < w2.heap.size:=sq ar.size;have lU:w.heap.size+1 < w2.heap.size:=sq ar.size;have VT:w1.heap.size < w2.heap.size:=sq ar.size;go_wp2_with fail
   refine (Ag x _ _ nm _ (aZ h b5) Ji.out).mono ?_;rw [HI.out];rintro e w3 ⟨rfl,bb⟩;obtain ⟨dm,hf3⟩:=ay bb;have Gk:w.heap.size < w3.heap.size:=sq bb.size;have rq:w.heap.size+1 < w3.heap.size:=sq bb.size;have Gq:w1.heap.size < w3.heap.size:=sq bb.size;have bI:am w3 (w.heap.size+1+1) x [.slice dG x.aa.length bV,.slice dS x.V.length dJ,.int .i64 x.next,.int .i64 x.weights.pack,.int .i64 x.weights.af,.int .i64 x.weights.an] G1:=(((jX.mono S').alloc _).ext ar).ext bb;obtain ⟨Gh,Gp,Xp,OL,hdis,lb,kn⟩:=bI.parts;obtain ⟨b,o,ds,G3,rfl,o9,hbs,hcap,l',gj,nk,bE,X5,hG3⟩:=OL.TJ hk;have hS:bc.size ag = 9:=rfl;rw [hS] at gj X5;clear hS;have hg:∀y∈Gp,w.heap.size+1 < y∧y < w1.heap.size:=fun y hy=>⟨by have:=OL.base y hy;omega,fp y (kn y hy)⟩;have aR:=hg b o9;have KB:oG w3 w1.heap.size [.slice dG x.aa.length bV,.slice (some ⟨b,o,none⟩) x.V.length dJ,.int .i64 x.next,.int .i64 x.weights.pack,.int .i64 x.weights.af,.int .i64 x.weights.an]:=(((oG.new w1 [.slice dG x.aa.length bV,.slice (some ⟨b,o,none⟩) x.V.length dJ,.int .i64 x.next,.int .i64 x.weights.pack,.int .i64 x.weights.af,.int .i64 x.weights.an] 29).ext ar).ext bb);have qC:oG ((w.alloc (.cells ([.slice bG x.aa.length bD,.slice dn x.V.length bW,.int .i64 x.next,.int .i64 x.weights.pack,.int .i64 x.weights.af,.int .i64 x.weights.an]:List Value).toArray 29)).alloc (.cells ([.slice none 0 0,.slice none 0 0,.int .i64 0,.int .i64 0,.int .i64 0,.int .i64 0]:List Value).toArray 29)) (w.heap.size+1) [.slice none 0 0,.slice none 0 0,.int .i64 0,.int .i64 0,.int .i64 0,.int .i64 0]:=(by have:=oG.new (w.alloc (.cells ([.slice bG x.aa.length bD,.slice dn x.V.length bW,.int .i64 x.next,.int .i64 x.weights.pack,.int .i64 x.weights.af,.int .i64 x.weights.an]:List Value).toArray 29)) [.slice none 0 0,.slice none 0 0,.int .i64 0,.int .i64 0,.int .i64 0,.int .i64 0] 29;rw [World.size_alloc] at this;exact this);have KR:oG w3 (w.heap.size+1) [.slice none 0 0,.slice none 0 0,.int .i64 0,.int .i64 0,.int .i64 0,.int .i64 0]:=((((qC.ext bo).ext (ak (aj _) _)).ext ar).ext bb);have dX:Below w.heap.size w w3:=b5;have oM:=I (show ∀y∈Gh++G3,y < w1.heap.size from fun y hy=>by rcases List.mem_append.1 hy with hy | hy;exact fp y (lb y hy);exact fp y (kn y (hG3 y hy)));have zt:=I (show ∀y∈Gh,y∉G3 from fun y hy lL=>hdis y hy (hG3 y lL));have mP:(ds.take (k * 9)).length = k * 9:=(by rw [List.length_take,gj];omega);have dp:(ds.drop ((k+1) * 9)).length = (x.V.length - (k+1)) * 9:=(by rw [List.length_drop,gj];omega);have TK:(k:Int)+1≤x.V.length:=J;have FC:k≤dJ:=J;have N6:k+1≤dJ:=J;obtain ⟨A0,hA0,ce⟩:∃A0:Addr,(if dJ = k+1 then some (⟨b,o,none⟩:Addr) else some ⟨b,o+(k+1) * 9,none⟩) = some A0∧Hid (A0.block = b∧∀q u,(ds.drop ((k+1) * 9))[q]? = some u→w3.cell? (A0.add q) = some u):=by
    by_cases hc:dJ = k+1
    ·refine ⟨⟨b,o,none⟩,by simp [hc],rfl,fun q u hu=>?_⟩;have h0:(ds.drop ((k+1) * 9)).length = 0:=(by rw [dp];omega);exact oR
    ·refine ⟨⟨b,o+(k+1) * 9,none⟩,by simp [hc],rfl,fun q u hu=>?_⟩;rw [List.getElem?_drop] at hu;rw [Addr.add_lit,show o+(k+1) * 9+q = o+((k+1) * 9+q) by omega];exact bE _ u hu
   have nH:IntKind.i64.wrap ((k:Int)+1) = (k:Int)+1:=IntWalk.i64_in _ J;have rn:((k:Int)+1).toNat = k+1:=J;have x0:(fun w'=>w'.cell? ⟨w1.heap.size,1,none⟩ = some (.slice (some ⟨b,o,none⟩) x.V.length dJ)) w3.drew:=(KB.ext (aA (aj _))).cell (i:=1) (u:=.slice (some ⟨b,o,none⟩) x.V.length dJ) rfl;have sk:=I bE;have lu:=I X5;have iX:=I nk;have HOH:=I Xp;clear bE X5 nk Xp gj jX bI OL hdis lb kn hG3;go_wp2_with fail
   refine uq (fun w'=>w'.cell? ⟨w1.heap.size,1,none⟩ = some (.slice (some ⟨b,o,none⟩) x.V.length dJ)) [1,2,3,4,6,7,8,9,10] [0,5,11] [12,13] U' U' H' x0 ?_;clear x0;simp only [d9,List.getElem?_cons_succ,List.getElem?_cons_zero]
   iterate 9
    (apply dR
     case hy =>exact xV
     simp only [Act.put,pz])
   refine fE ?_;have dq:Below w3.heap.size w3 (w3.alloc (.cells #[] 53)).drew:=aA (ak (aj _) _);have zv:=KB.ext dq;have GF:=KR.ext dq;have mh:(w3.alloc (.cells #[] 53)).drew.ownsRow w3.heap.size 53 9 (.slice (some ⟨w3.heap.size,0,none⟩) 0 0) 0 []:=OU w3 53 9 w3.heap.size rfl;refine iK rfl (fun K hK=>?_);go_simp;refine hK _ _ (zv.cell (i:=1) (u:=.slice (some ⟨b,o,none⟩) x.V.length dJ) rfl) ?_;try simp only [Act.put,pz]
   clear hK K;have gT:(w3.alloc (.cells #[] 53)).drew.heap.size = w3.heap.size+1:=S';generalize (w3.alloc (.cells #[] 53)).drew = wd at *;refine iK rfl (fun K hK=>?_)
   refine RD YH _ _ O wd w3.heap.size _ 0 [] mh O ⟨b,o,none⟩ k dJ (ds.take (k * 9)) O mP (fun q u hu=>by
    rw [List.getElem?_take] at hu;split at hu
    ·rw [Addr.add_lit];exact (dq.cell (p:=⟨b,o+q,none⟩) bA).trans (sk.out q u hu)
    ·cases hu) (fun u hu=>iX.out u (List.mem_of_mem_take hu)) J J J ?_
   intro v5 w5 aL b8 fh;have tT:∀q,(Value.slice (some ⟨w3.heap.size,0,none⟩) 0 0).ownBlock = some q→q = w3.heap.size:=fun q hq=>by simp [Value.ownBlock] at hq;omega
   have sE:=zv.grown b8 (fun q hq=>by have:=tT q hq;omega);have vq:=GF.grown b8 (fun q hq=>by have:=tT q hq;omega);have zw:∀y,y < w3.heap.size→w5.heap[y]? = w3.heap[y]?:=fun y hy=>(b8.block y J (fun e=>by have:=tT y e.symm;omega)).trans (dq.block y hy);have dT:∀q,v5.ownBlock = some q→w3.heap.size≤q:=fun q hq=>(aL.lt q hq).1;refine hK _ _ (sE.cell (i:=1) (u:=.slice (some ⟨b,o,none⟩) x.V.length dJ) rfl) ?_;try simp only [Act.put,pz]
   clear hK K;refine iK rfl (fun K hK=>?_)
   refine RD YH _ _ O w5 w3.heap.size v5 _ _ aL O A0 (x.V.length - (k+1)) (dJ - (k+1)) (ds.drop ((k+1) * 9)) O dp (fun q u hu=>by
    refine (World.cell?_of_block ?_).trans (ce.out.2 q u hu);refine zw _ ?_;rw [show (A0.add q).block = A0.block from by unfold Addr.add;split <;> rfl,ce.out.1]
    omega) (fun u hu=>iX.out u (List.mem_of_mem_drop hu)) J J (by have:=b8.size;omega) ?_
   intro v7 w7 nK Ua lp;have mv:=Ua.size;have Es:=b8.size;have fZ:=sE.grown Ua (fun q hq=>by have:=dT q hq;omega);have zx:=vq.grown Ua (fun q hq=>by have:=dT q hq;omega);have tU:∀y,y < w3.heap.size→w7.heap[y]? = w3.heap[y]?:=fun y hy=>(Ua.block y J (fun e=>by have:=dT y e.symm;omega)).trans (zw y hy);rw [show 0+k+(x.V.length - (k+1)) = x.V.length - 1 by omega,List.nil_append] at nK;obtain ⟨A7,c7,hv7⟩:=mY nK;subst hv7;refine hK _ _ (fZ.cell (i:=1) (u:=.slice (some ⟨b,o,none⟩) x.V.length dJ) rfl) ?_;try simp only [Act.put,pz]
   clear hK K;have gv:(x.V.eraseIdx k).length = x.V.length - 1:=(by rw [List.length_eraseIdx,if_pos hk]);have ru:aY w7 (w.heap.size+1+1) (x.V.eraseIdx k) (ds.take (k * 9)++ds.drop ((k+1) * 9)) G3:=lu.out.bs (fun y hy=>tU y (by have:=oM.out y (by simp [hy]);omega)) J;obtain ⟨A8,c8,G8,hv8,sV,hG8⟩:=am.TI (xs:=x.V.eraseIdx k) (by rw [gv];exact vP nK J) ru (fun g N8 hm=>by have:=(nK.lt g N8).1;have:=oM.out g (by simp [hm]);omega);rw [gv] at hv8 sV;simp only [Value.slice.injEq,true_and] at hv8;obtain ⟨rfl,rfl⟩:=hv8;have GG:am w7 (w.heap.size+1+1) x.aa [.slice dG x.aa.length bV] Gh:=HOH.out.bs (fun y hy=>tU y (by have:=oM.out y (by simp [hy]);omega)) J
   have ur:=I (am.whole GG sV (fun y hy lL=>by
    rcases hG8 y lL with h9 | h9
    ·exact zt.out y hy h9
    ·have:=(nK.lt y h9).1;have:=oM.out y (by simp [hy]);omega) wI iV gI iW)
   have HGN:=I (show ∀y∈Gh++G8,y≠w1.heap.size from fun y hy e=>by
    rcases List.mem_append.1 hy with hy | hy
    ·have:=oM.out y (by simp [hy]);omega
    ·rcases hG8 y hy with h9 | h9
     ·have:=oM.out y (by simp [h9]);omega
     ·have:=(nK.lt y h9).1;omega)
   have WE:Below w.heap.size w w7:=dX.trans ⟨Ua.os.trans (b8.os.trans dq.os),Ua.tape.trans (b8.tape.trans dq.tape),Ua.output.trans (b8.output.trans dq.output),J,fun y hy=>tU y J⟩;obtain ⟨m0,m1,m2,m3,m4,m5⟩:=dr fZ;have mf:=fZ.fz;have ml:=fZ.lt;obtain ⟨r0,r1,r2,r3,r4,r5⟩:=dr zx;have rf:=zx.fz;have rl:=zx.lt;clear d7 cq dm gc cL hf3 KB KR qC zv GF sE vq fZ zx mh aL nK b8 Ua fh lp zw tU tT dT ru sV GG hG8 bo ar bb dq hg h nH rn hA0;refine yG ?_;go_wp2_with fail
   try dsimp only
   iterate 60 (first | go_step | skip)
   refine bodyPost_ret (v:=.tuple #[.agg #[.slice dG x.aa.length bV,.slice A7 (x.V.length - 1) c7,.int .i64 x.next,.int .i64 x.weights.pack,.int .i64 x.weights.af,.int .i64 x.weights.an],.int .i64 0]) (by simp [results,Tryz.results106,go_sem, *]) rfl ?_;rw [HF.out]
   first
    | refine ⟨[.slice dG x.aa.length bV,.slice A7 (x.V.length - 1) c7,.int .i64 x.next,.int .i64 x.weights.pack,.int .i64 x.weights.af,.int .i64 x.weights.an],Gh++G8,rfl,?_,?_⟩
    | refine ⟨[.slice dG x.aa.length bV,.slice A7 (x.V.length - 1) c7,.int .i64 x.next,.int .i64 x.weights.pack,.int .i64 x.weights.af,.int .i64 x.weights.an],rfl,⟨Gh++G8,?_⟩,?_⟩
   ·try dsimp only
    refine am.mono (B:=w.heap.size+1+1) ?_ J;exact (by repeat (first | with_reducible exact ur.out | with_reducible refine am.setCell ?_ bA _ | with_reducible refine zr ?_ HGN.out))
   ·exact pI
end Go.Proofs.YtajbbmembionpaaGreat
