/- DeletePod, of the reference. No condition. -/
import Derived.Test.YtajbbmembionpaaGreatBest
namespace Go.Proofs.YtajbbmembionpaaGreat
open Go.ChangeShapes Go.WideShapes Go.ChangeAt Go.RowKit
set_option linter.unusedVariables false
set_option linter.unusedSimpArgs false
set_option maxHeartbeats 4000000
set_option maxRecDepth 100000
theorem RD {P:Program} {t e:TypeId} {z:Value} {size bytes:Nat} (hE:DL P t e z size bytes) {o:Oper} {a:Act} {K:Act→World→Prop} {Q:Exit→Act→World→Prop} (s x:Operand)
 (ho:o.op = .call { callee:=.builtin .append,args:=#[s,x],argTypes:=#[t,t] })
 (w:World) (base:Nat) (v:Value) (n:Nat) (xs:List Value) (bi:w.ownsRow base e size v n xs) (hs:a.eval s = v)
 (ad:Addr) (m c:Nat) (fw:List Value) (hx:a.eval x = .slice (some ad) m c) (hl:fw.length = m * size) (ja:∀j u,fw[j]? = some u→w.cell? (ad.add j) = some u) (Z:∀u∈fw,u.oneCell' = true)
 (X:n+m≤2097152) (lU:bytes≤4096) (db:base≤w.heap.size)
 (h:∀v' w',w'.ownsRow base e size v' (n+m) (xs++fw)→w.grownBy w' v.ownBlock→(v'.ownBlock = v.ownBlock∨v'.ownBlock = some w.heap.size)→K (a.put o.dst v') w'):o.wp P a w K Q:=by
 obtain ⟨ht,hi0,j6,fX⟩:=hE;obtain ⟨i,hi,hz,hsize,U⟩:=info_parts hi0;have iP:(n+m) * bytes≤2097152 * 4096:=Nat.mul_le_mul X lU;obtain ⟨v',w',hr,h2,h3,h4,h5⟩:=run_append_own_at (P:=P) w base t o.type e i z size bytes ht hi hz hsize U j6 fX v n xs bi ad m c fw hl ja Z j4 J db;unfold Oper.wp execOp;simp only [ho,resolve,invoke,builtin,Sem.run_bind,Sem.run_pure,Result.andThen_ok,List.map_toArray,List.map_cons,List.map_nil,hs,hx,hr];exact h v' w' h2 h3 h5
theorem am.VC {α:Type} [bb α] {w:World} {B:Nat} {xs:List α} {ds:List Value} {F:List Nat} {e:TypeId} {v:Value} (h0:w.ownsRow B e (bb.size α) v xs.length ds) (h:aY w B xs ds F) (bX:∀g,v.ownBlock = some g→g∉F):∃A c G,v = .slice A xs.length c∧am w B xs [.slice A xs.length c] G∧∀y∈G,y∈F∨v.ownBlock = some y:=by
 exact Da
theorem zt {α:Type} [bb α] {w:World} {B c i:Nat} {u:Value} {x:α} {cs:List Value} {F:List Nat} (h:am w B x cs F) (hF:∀y∈F,y≠c):am (w.setCell ⟨c,i,none⟩ u) B x cs F :=
 h.bm (fun y hy=>Below.heap_setCell _ _ _ _ yd) ew
theorem am.VD {α:Type} [bb α] {w:World} {B c:Nat} {xs:List α} {A:Option Addr} {F:List Nat} (h:am w B xs [.slice A xs.length c] F) {i:Nat} (hi:i < xs.length) :
 ∃b o ds G,A = some ⟨b,o,none⟩∧b∈F∧b < w.heap.size∧xs.length≤c∧c≤maxLen∧ds.length = xs.length * bb.size α∧(∀u∈ds,u.oneCell' = true)∧uK w b o ds ∧
  aY w B (xs.eraseIdx i) (ds.take (i * bb.size α)++ds.drop ((i+1) * bb.size α)) G∧(∀y∈G,y∈F):=by
 obtain ⟨⟨A',c',G,ds,e,dP,cj,hc,h0⟩,hnd,db,hplain⟩:=h;simp only [List.cons.injEq,Value.slice.injEq,and_true,true_and] at e;obtain ⟨rfl,rfl⟩:=e;rcases h0 with h0 | ⟨b,o,rfl,rfl,U,bJ⟩
 ·rw [h0.1] at hi;cases hi
 have mZ:=hc.one;have cI:=hc.len;obtain ⟨d1,ck,d2,G1,Fk,G2,rfl,rfl,r1,r2,r3,hd1⟩:=hc.split hi;have FD:=bb.len r2;have e1:(d1++(ck++d2)).take (i * bb.size α) = d1:=by rw [← hd1,List.take_left]
 have e2:(d1++(ck++d2)).drop ((i+1) * bb.size α) = d2:=by rw [← List.append_assoc,show (i+1) * bb.size α = (d1++ck).length by rw [List.length_append,hd1,FD,Nat.succ_mul],List.drop_left]
 simp only [List.nodup_cons,List.nodup_append,List.mem_append,not_or] at hnd;have hx:(xs.eraseIdx i) = xs.take i++xs.drop (i+1):=List.eraseIdx_eq_take_drop_succ ..;have bA:∀y∈G1++G2,y∈b :: (G1++(Fk++G2)):=fun y hy=>by
  rcases List.mem_append.1 hy with hy | hy <;> simp [hy]
 refine ⟨b,o,_,G1++G2,rfl,List.mem_cons_self ..,U,dP,cj,cI,mZ,bJ,⟨?_,?_,fun y hy=>db y (bA y hy),fun y hy=>hplain y (bA y hy)⟩,bA⟩
 ·rw [hx,e1,e2];exact r1.append r3
 ·rw [List.nodup_append];exact ⟨hnd.2.1,hnd.2.2.1.2.1,fun x hx y hy=>hnd.2.2.2 x hx y (Or.inr hy)⟩
theorem afS (x:aU) (cs:List Value) (F:List Nat) (nm:ByteArray) (w:World) (h:rd w x cs F) (hw:(x.wt:Int)≤1048576) :
 Calls Tryz.prog 106 #[.agg cs.toArray,.string nm] w fun e w'=>∃ds G,e = .returned (.tuple #[.agg ds.toArray,.int .i64 (Ut x nm).2])∧am w' w.heap.size (Ut x nm).1 ds G∧Below w.heap.size w w':=by
 have gP:(x.O.length:Int)≤1048576:=by have Z:=gJ ag.wt x.O;have h2:x.wt = kL aR.wt x.V+kL ag.wt x.O:=rfl;omega
 have HW:=I hw;have Ji:=I gP;clear hw;have hr:=h;obtain ⟨bG,bD,fQ,dn,bW,jg,aD,qp,bQ,dM,hnext,aV,aP,aW⟩:=aO hr;subst aD;clear qp hr;have Bx:=Nc (p:=CG nm) x.O;cases hc:iI x
 ·have HF:=I (show Ut x nm = (x,1) by unfold Ut;rw [hc];simp);have HC:=I hc;clear hc;obtain ⟨r,d'⟩:∃r,pK (CG nm) x.O = r:=⟨_,rfl⟩;have HI:=I d';clear d';go_enter Tryz.func106,Tryz.ntmps106;go_wp2_with fail
  refine (BO x _ _ _ (aZ h b9) HW.out).mono ?_;rintro e w1 ⟨lj,G1,rfl,jX,bp⟩;have cP:=jX.rd;obtain ⟨dG,bV,xq,dS,dJ,Bz,aD,hG1,oO,tq,wI,iV,gI,iW⟩:=aO cP;subst aD;clear hG1 cP;obtain ⟨dP,eT⟩:=ay bp;have VQ:w.heap.size < w1.heap.size:=sq bp.size;have lN:w.heap.size+1 < w1.heap.size:=sq bp.size;have fs:=jX.lt;go_wp2_with fail
  refine (qM x _ _ _ (aZ h b9) HW.out).mono ?_;rw [HC.out];rintro e w2 ⟨rfl,aq⟩;obtain ⟨cj,cN⟩:=ay aq;have VR:w.heap.size < w2.heap.size:=sq aq.size;have lO:w.heap.size+1 < w2.heap.size:=sq aq.size;have VT:w1.heap.size < w2.heap.size:=sq aq.size;have bM:am w2 (w.heap.size+1+1) x [.slice dG x.V.length bV,.slice dS x.O.length dJ,.int .i64 x.next,.int .i64 x.weights.pack,.int .i64 x.weights.af,.int .i64 x.weights.an] G1:=((jX.mono S').alloc _).ext aq;have RZ:=I bM;clear jX bM h;go_wp2_with fail
  try dsimp only
  iterate 60 (first | go_step | skip)
  refine bodyPost_ret (v:=.tuple #[.agg #[.slice dG x.V.length bV,.slice dS x.O.length dJ,.int .i64 x.next,.int .i64 x.weights.pack,.int .i64 x.weights.af,.int .i64 x.weights.an],.int .i64 1]) (by simp [results,Tryz.results106,go_sem, *]) rfl ?_;exact sF
 ·by_cases hng:pK (CG nm) x.O < 0
  ·have HF:=I (show Ut x nm = (x,3) by unfold Ut;rw [hc,if_pos rfl,if_pos hng]);have HC:=I hc;clear hc;obtain ⟨r,d'⟩:∃r,pK (CG nm) x.O = r:=⟨_,rfl⟩;have HI:=I d';rw [d'] at hng;clear d';go_enter Tryz.func106,Tryz.ntmps106;go_wp2_with fail
   refine (BO x _ _ _ (aZ h b9) HW.out).mono ?_;rintro e w1 ⟨lj,G1,rfl,jX,bp⟩;have cP:=jX.rd;obtain ⟨dG,bV,xq,dS,dJ,Bz,aD,hG1,oO,tq,wI,iV,gI,iW⟩:=aO cP;subst aD;clear hG1 cP;obtain ⟨dP,eT⟩:=ay bp;have VQ:w.heap.size < w1.heap.size:=sq bp.size;have lN:w.heap.size+1 < w1.heap.size:=sq bp.size;have fs:=jX.lt;go_wp2_with fail
   refine (qM x _ _ _ (aZ h b9) HW.out).mono ?_;rw [HC.out];rintro e w2 ⟨rfl,aq⟩;obtain ⟨cj,cN⟩:=ay aq;have VR:w.heap.size < w2.heap.size:=sq aq.size;have lO:w.heap.size+1 < w2.heap.size:=sq aq.size;have VT:w1.heap.size < w2.heap.size:=sq aq.size;go_wp2_with fail
   refine (xa x _ _ nm _ (aZ h b9) Ji.out).mono ?_;rw [HI.out];rintro e w3 ⟨rfl,bd⟩;obtain ⟨dx,hf3⟩:=ay bd;have Hx:w.heap.size < w3.heap.size:=sq bd.size;have qL:w.heap.size+1 < w3.heap.size:=sq bd.size;have Hy:w1.heap.size < w3.heap.size:=sq bd.size;have bM:am w3 (w.heap.size+1+1) x [.slice dG x.V.length bV,.slice dS x.O.length dJ,.int .i64 x.next,.int .i64 x.weights.pack,.int .i64 x.weights.af,.int .i64 x.weights.an] G1:=(((jX.mono S').alloc _).ext aq).ext bd;have RZ:=I bM;clear jX bM h;go_wp2_with fail
   try dsimp only
   iterate 60 (first | go_step | skip)
   refine bodyPost_ret (v:=.tuple #[.agg #[.slice dG x.V.length bV,.slice dS x.O.length dJ,.int .i64 x.next,.int .i64 x.weights.pack,.int .i64 x.weights.af,.int .i64 x.weights.an],.int .i64 3]) (by simp [results,Tryz.results106,go_sem, *]) rfl ?_;exact sF
  ·obtain ⟨k,fc⟩:∃k:Nat,pK (CG nm) x.O = k:=⟨(pK (CG nm) x.O).toNat,J⟩;have hk:k < x.O.length:=J;have HF:=I (show Ut x nm = (⟨x.V,x.O.eraseIdx k,x.next,x.weights⟩,0) by unfold Ut;rw [hc,if_pos rfl,if_neg J,fc,Int.toNat_natCast]);have HC:=I hc;clear hc;have HI:=I fc;clear fc hng;go_enter Tryz.func106,Tryz.ntmps106;go_wp2_with fail
   refine (BO x _ _ _ (aZ h b9) HW.out).mono ?_;rintro e w1 ⟨lj,G1,rfl,jX,bp⟩;have cP:=jX.rd;obtain ⟨dG,bV,xq,dS,dJ,Bz,aD,hG1,oO,tq,wI,iV,gI,iW⟩:=aO cP;subst aD;clear hG1 cP;obtain ⟨dP,eT⟩:=ay bp;have VQ:w.heap.size < w1.heap.size:=sq bp.size;have lN:w.heap.size+1 < w1.heap.size:=sq bp.size;have fs:=jX.lt;go_wp2_with fail
   refine (qM x _ _ _ (aZ h b9) HW.out).mono ?_;rw [HC.out];rintro e w2 ⟨rfl,aq⟩;obtain ⟨cj,cN⟩:=ay aq;have VR:w.heap.size < w2.heap.size:=sq aq.size;have lO:w.heap.size+1 < w2.heap.size:=sq aq.size;have VT:w1.heap.size < w2.heap.size:=sq aq.size;go_wp2_with fail
   refine (xa x _ _ nm _ (aZ h b9) Ji.out).mono ?_;rw [HI.out];rintro e w3 ⟨rfl,bd⟩;obtain ⟨dx,hf3⟩:=ay bd;have Hx:w.heap.size < w3.heap.size:=sq bd.size;have qL:w.heap.size+1 < w3.heap.size:=sq bd.size;have Hy:w1.heap.size < w3.heap.size:=sq bd.size;have bM:am w3 (w.heap.size+1+1) x [.slice dG x.V.length bV,.slice dS x.O.length dJ,.int .i64 x.next,.int .i64 x.weights.pack,.int .i64 x.weights.af,.int .i64 x.weights.an] G1:=(((jX.mono S').alloc _).ext aq).ext bd;obtain ⟨Gh,Gp,Xp,OL,hdis,o0,ju⟩:=bM.parts;obtain ⟨b,o,ds,G3,rfl,o9,hbs,hcap,hmx,gg,mZ,bJ,X5,hG3⟩:=OL.VD hk;have hS:bb.size ag = 9:=rfl;rw [hS] at gg X5;clear hS;have hg:∀y∈Gp,w.heap.size+1 < y∧y < w1.heap.size:=fun y hy=>⟨by have:=OL.base y hy;omega,fs y (ju y hy)⟩;have aK:=hg b o9;have KB:oG w3 w1.heap.size [.slice dG x.V.length bV,.slice (some ⟨b,o,none⟩) x.O.length dJ,.int .i64 x.next,.int .i64 x.weights.pack,.int .i64 x.weights.af,.int .i64 x.weights.an]:=(((oG.new w1 [.slice dG x.V.length bV,.slice (some ⟨b,o,none⟩) x.O.length dJ,.int .i64 x.next,.int .i64 x.weights.pack,.int .i64 x.weights.af,.int .i64 x.weights.an] 29).ext aq).ext bd);have qn:oG ((w.alloc (.cells ([.slice bG x.V.length bD,.slice dn x.O.length bW,.int .i64 x.next,.int .i64 x.weights.pack,.int .i64 x.weights.af,.int .i64 x.weights.an]:List Value).toArray 29)).alloc (.cells ([.slice none 0 0,.slice none 0 0,.int .i64 0,.int .i64 0,.int .i64 0,.int .i64 0]:List Value).toArray 29)) (w.heap.size+1) [.slice none 0 0,.slice none 0 0,.int .i64 0,.int .i64 0,.int .i64 0,.int .i64 0]:=(by have:=oG.new (w.alloc (.cells ([.slice bG x.V.length bD,.slice dn x.O.length bW,.int .i64 x.next,.int .i64 x.weights.pack,.int .i64 x.weights.af,.int .i64 x.weights.an]:List Value).toArray 29)) [.slice none 0 0,.slice none 0 0,.int .i64 0,.int .i64 0,.int .i64 0,.int .i64 0] 29;rw [World.size_alloc] at this;exact this);have KR:oG w3 (w.heap.size+1) [.slice none 0 0,.slice none 0 0,.int .i64 0,.int .i64 0,.int .i64 0,.int .i64 0]:=((((qn.ext bp).ext (ak (aj _) _)).ext aq).ext bd);have eC:Below w.heap.size w w3:=b9;have oB:=I (show ∀y∈Gh++G3,y < w1.heap.size from fun y hy=>by rcases List.mem_append.1 hy with hy | hy;exact fs y (o0 y hy);exact fs y (ju y (hG3 y hy)));have zv:=I (show ∀y∈Gh,y∉G3 from fun y hy ly=>hdis y hy (hG3 y ly));have mE:(ds.take (k * 9)).length = k * 9:=(by rw [List.length_take,gg];omega);have dv:(ds.drop ((k+1) * 9)).length = (x.O.length - (k+1)) * 9:=(by rw [List.length_drop,gg];omega);have VE:(k:Int)+1≤x.O.length:=J;have GG:k≤dJ:=J;have Po:k+1≤dJ:=J;obtain ⟨A0,hA0,cL⟩:∃A0:Addr,(if dJ = k+1 then some (⟨b,o,none⟩:Addr) else some ⟨b,o+(k+1) * 9,none⟩) = some A0∧Hid (A0.block = b∧∀q u,(ds.drop ((k+1) * 9))[q]? = some u→w3.cell? (A0.add q) = some u):=by
    by_cases hc:dJ = k+1
    ·refine ⟨⟨b,o,none⟩,by simp [hc],rfl,fun q u hu=>?_⟩;have h0:(ds.drop ((k+1) * 9)).length = 0:=(by rw [dv];omega);exact oE
    ·refine ⟨⟨b,o+(k+1) * 9,none⟩,by simp [hc],rfl,fun q u hu=>?_⟩;rw [List.getElem?_drop] at hu;rw [Addr.add_lit,show o+(k+1) * 9+q = o+((k+1) * 9+q) by omega];exact bJ _ u hu
   have oD:IntKind.i64.wrap ((k:Int)+1) = (k:Int)+1:=IntWalk.i64_in _ J;have ze:((k:Int)+1).toNat = k+1:=J;have x0:(fun w'=>w'.cell? ⟨w1.heap.size,1,none⟩ = some (.slice (some ⟨b,o,none⟩) x.O.length dJ)) w3.drew:=(KB.ext (aA (aj _))).cell (i:=1) (u:=.slice (some ⟨b,o,none⟩) x.O.length dJ) rfl;have rL:=I bJ;have lk:=I X5;have i6:=I mZ;have HOH:=I Xp;clear bJ X5 mZ Xp gg jX bM OL hdis o0 ju hG3;go_wp2_with fail
   refine uq (fun w'=>w'.cell? ⟨w1.heap.size,1,none⟩ = some (.slice (some ⟨b,o,none⟩) x.O.length dJ)) [1,2,3,4,6,7,8,9,10] [0,5,11] [12,13] U' U' H' x0 ?_;clear x0;simp only [ek,List.getElem?_cons_succ,List.getElem?_cons_zero]
   iterate 9
    (apply dR
     case hy =>exact x3
     simp only [Act.put,pz])
   refine fE ?_;have gR:Below w3.heap.size w3 (w3.alloc (.cells #[] 53)).drew:=aA (ak (aj _) _);have zw:=KB.ext gR;have Ic:=KR.ext gR;have l7:(w3.alloc (.cells #[] 53)).drew.ownsRow w3.heap.size 53 9 (.slice (some ⟨w3.heap.size,0,none⟩) 0 0) 0 []:=OU w3 53 9 w3.heap.size rfl;refine iK rfl (fun K hK=>?_);go_simp;refine hK _ _ (zw.cell (i:=1) (u:=.slice (some ⟨b,o,none⟩) x.O.length dJ) rfl) ?_;try simp only [Act.put,pz]
   clear hK K;have fX:(w3.alloc (.cells #[] 53)).drew.heap.size = w3.heap.size+1:=S';generalize (w3.alloc (.cells #[] 53)).drew = wd at *;refine iK rfl (fun K hK=>?_)
   refine RD YH _ _ M wd w3.heap.size _ 0 [] l7 M ⟨b,o,none⟩ k dJ (ds.take (k * 9)) M mE (fun q u hu=>by
    rw [List.getElem?_take] at hu;split at hu
    ·rw [Addr.add_lit];exact (gR.cell (p:=⟨b,o+q,none⟩) bC).trans (rL.out q u hu)
    ·cases hu) (fun u hu=>i6.out u (List.mem_of_mem_take hu)) J J J ?_
   intro v5 w5 aM cw fo;have tM:∀q,(Value.slice (some ⟨w3.heap.size,0,none⟩) 0 0).ownBlock = some q→q = w3.heap.size:=fun q hq=>by simp [Value.ownBlock] at hq;omega
   have sj:=zw.grown cw (fun q hq=>by have:=tM q hq;omega);have vn:=Ic.grown cw (fun q hq=>by have:=tM q hq;omega);have zx:∀y,y < w3.heap.size→w5.heap[y]? = w3.heap[y]?:=fun y hy=>(cw.block y J (fun e=>by have:=tM y e.symm;omega)).trans (gR.block y hy);have eg:∀q,v5.ownBlock = some q→w3.heap.size≤q:=fun q hq=>(aM.lt q hq).1;refine hK _ _ (sj.cell (i:=1) (u:=.slice (some ⟨b,o,none⟩) x.O.length dJ) rfl) ?_;try simp only [Act.put,pz]
   clear hK K;refine iK rfl (fun K hK=>?_)
   refine RD YH _ _ M w5 w3.heap.size v5 _ _ aM M A0 (x.O.length - (k+1)) (dJ - (k+1)) (ds.drop ((k+1) * 9)) M dv (fun q u hu=>by
    refine (World.cell?_of_block ?_).trans (cL.out.2 q u hu);refine zx _ ?_;rw [show (A0.add q).block = A0.block from by unfold Addr.add;split <;> rfl,cL.out.1]
    omega) (fun u hu=>i6.out u (List.mem_of_mem_drop hu)) J J (by have:=cw.size;omega) ?_
   intro v7 w7 nK Ua li;have lu:=Ua.size;have Es:=cw.size;have f':=sj.grown Ua (fun q hq=>by have:=eg q hq;omega);have zy:=vn.grown Ua (fun q hq=>by have:=eg q hq;omega);have tN:∀y,y < w3.heap.size→w7.heap[y]? = w3.heap[y]?:=fun y hy=>(Ua.block y J (fun e=>by have:=eg y e.symm;omega)).trans (zx y hy);rw [show 0+k+(x.O.length - (k+1)) = x.O.length - 1 by omega,List.nil_append] at nK;obtain ⟨A7,c7,hv7⟩:=mY nK;subst hv7;refine hK _ _ (f'.cell (i:=1) (u:=.slice (some ⟨b,o,none⟩) x.O.length dJ) rfl) ?_;try simp only [Act.put,pz]
   clear hK K;have gL:(x.O.eraseIdx k).length = x.O.length - 1:=(by rw [List.length_eraseIdx,if_pos hk]);have qS:aY w7 (w.heap.size+1+1) (x.O.eraseIdx k) (ds.take (k * 9)++ds.drop ((k+1) * 9)) G3:=lk.out.bm (fun y hy=>tN y (by have:=oB.out y (by simp [hy]);omega)) J;obtain ⟨A8,c8,G8,hv8,sV,hG8⟩:=am.VC (xs:=x.O.eraseIdx k) (by rw [gL];exact vP nK J) qS (fun g Pp hm=>by have:=(nK.lt g Pp).1;have:=oB.out g (by simp [hm]);omega);rw [gL] at hv8 sV;simp only [Value.slice.injEq,true_and] at hv8;obtain ⟨rfl,rfl⟩:=hv8;have If:am w7 (w.heap.size+1+1) x.V [.slice dG x.V.length bV] Gh:=HOH.out.bm (fun y hy=>tN y (by have:=oB.out y (by simp [hy]);omega)) J
   have ul:=I (am.whole If sV (fun y hy ly=>by
    rcases hG8 y ly with h9 | h9
    ·exact zv.out y hy h9
    ·have:=(nK.lt y h9).1;have:=oB.out y (by simp [hy]);omega) wI iV gI iW)
   have HGN:=I (show ∀y∈Gh++G8,y≠w1.heap.size from fun y hy e=>by
    rcases List.mem_append.1 hy with hy | hy
    ·have:=oB.out y (by simp [hy]);omega
    ·rcases hG8 y hy with h9 | h9
     ·have:=oB.out y (by simp [h9]);omega
     ·have:=(nK.lt y h9).1;omega)
   have WE:Below w.heap.size w w7:=eC.trans ⟨Ua.os.trans (cw.os.trans gR.os),Ua.tape.trans (cw.tape.trans gR.tape),Ua.output.trans (cw.output.trans gR.output),J,fun y hy=>tN y J⟩;obtain ⟨m0,m1,m2,m3,m4,m5⟩:=dy f';have mf:=f'.fz;have ml:=f'.lt;obtain ⟨r0,r1,r2,r3,r4,r5⟩:=dy zy;have rf:=zy.fz;have rl:=zy.lt;clear dP cj dx eT cN hf3 KB KR qn zw Ic sj vn f' zy l7 aM nK cw Ua fo li zx tN tM eg qS sV If hG8 bp aq bd gR hg h oD ze hA0;refine yG ?_;go_wp2_with fail
   try dsimp only
   iterate 60 (first | go_step | skip)
   refine bodyPost_ret (v:=.tuple #[.agg #[.slice dG x.V.length bV,.slice A7 (x.O.length - 1) c7,.int .i64 x.next,.int .i64 x.weights.pack,.int .i64 x.weights.af,.int .i64 x.weights.an],.int .i64 0]) (by simp [results,Tryz.results106,go_sem, *]) rfl ?_;rw [HF.out]
   first
    | refine ⟨[.slice dG x.V.length bV,.slice A7 (x.O.length - 1) c7,.int .i64 x.next,.int .i64 x.weights.pack,.int .i64 x.weights.af,.int .i64 x.weights.an],Gh++G8,rfl,?_,?_⟩
    | refine ⟨[.slice dG x.V.length bV,.slice A7 (x.O.length - 1) c7,.int .i64 x.next,.int .i64 x.weights.pack,.int .i64 x.weights.af,.int .i64 x.weights.an],rfl,⟨Gh++G8,?_⟩,?_⟩
   ·try dsimp only
    refine am.mono (B:=w.heap.size+1+1) ?_ J;exact (by repeat (first | with_reducible exact ul.out | with_reducible refine am.setCell ?_ bC _ | with_reducible refine zt ?_ HGN.out))
   ·exact pD
end Go.Proofs.YtajbbmembionpaaGreat
