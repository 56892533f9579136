/- ClusterOk, of the program, where a cluster's parts are small. No condition. -/
import Derived.Test.YtjahcnjmjahbaaaGreatSameCS
namespace Go.Proofs.YtjahcnjmjahbaaaGreat
open Go.ChangeShapes Go.WideShapes Go.ChangeAt Go.RowKit
set_option linter.unusedVariables false
set_option linter.unusedSimpArgs false
set_option maxHeartbeats 16000000
set_option maxRecDepth 100000
theorem aeh (x:aU) (cs:List Value) (F:List Nat) (w:World) (h:rd w x cs F) (b5:(x.aa.length:Int)≤1048576) (vk:(x.J.length:Int)≤1048576) (Cs:∀y∈x.aa,U6 y) (x3:∀y∈x.J,Xl y.aS) :
 Calls Tryz.prog 28 #[.agg cs.toArray] w fun e w'=>e = .returned (.bool (iI x))∧Below w.heap.size w w':=by
 have Mu:=I (fun k (hk:k < x.aa.length)=>Cs x.aa[k] (List.getElem_mem ..));have vQ:=I (fun k (hk:k < x.J.length)=>x3 x.J[k] (List.getElem_mem ..));clear Cs x3;have hr:=h;obtain ⟨bG,bD,fQ,dn,bW,jg,ax,hF,bQ,dM,hnext,aV,aP,aW⟩:=aO hr;subst ax;clear hF hr;obtain ⟨w0,hw0⟩:∃w0,w.alloc (.cells #[.slice bG x.aa.length bD,.slice dn x.J.length bW,.int .i64 x.next,.int .i64 x.weights.pack,.int .i64 x.weights.af,.int .i64 x.weights.al] 29) = w0:=⟨_,rfl⟩;have c0:w0.cell? ⟨w.heap.size,0,none⟩ = some (.slice bG x.aa.length bD):=by rw [← hw0,cell_of_row _ _ _ _ _ _ (heap_alloc_new w _)];rfl
 have c1:w0.cell? ⟨w.heap.size,1,none⟩ = some (.slice dn x.J.length bW):=by rw [← hw0,cell_of_row _ _ _ _ _ _ (heap_alloc_new w _)];rfl
 have c2:w0.cell? ⟨w.heap.size,2,none⟩ = some (.int .i64 x.next):=by rw [← hw0,cell_of_row _ _ _ _ _ _ (heap_alloc_new w _)];rfl
 have c3:w0.cell? ⟨w.heap.size,3,none⟩ = some (.int .i64 x.weights.pack):=by rw [← hw0,cell_of_row _ _ _ _ _ _ (heap_alloc_new w _)];rfl
 have c4:w0.cell? ⟨w.heap.size,4,none⟩ = some (.int .i64 x.weights.af):=by rw [← hw0,cell_of_row _ _ _ _ _ _ (heap_alloc_new w _)];rfl
 have c5:w0.cell? ⟨w.heap.size,5,none⟩ = some (.int .i64 x.weights.al):=by rw [← hw0,cell_of_row _ _ _ _ _ _ (heap_alloc_new w _)];rfl
 have jp:Below w.heap.size w w0:=by rw [← hw0];exact ak (aj _) _
 have ce:w.heap.size < w0.heap.size:=by rw [← hw0];simp
 have ry:=I hw0;clear hw0;by_cases hh1:(x.aa.length:Int)≤8
 ·by_cases hh2:(x.J.length:Int)≤12
  ·cases ee:(decide ((1:Int)≤x.next)&&decide (x.next≤1000000000)) with
   | false =>have Jf:=I ee;have HF:=I (oU (x:=x) XJ);clear ee;exact uZ
   | true =>
     have Jf:=I ee;cases gn:zL x.weights.pack x.weights.af x.weights.al with
     | false =>have Du:=I gn;have HF:=I (oU (x:=x) XK);clear ee gn;exact uZ
     | true =>
       have Du:=I gn;have S6:=I (show Em x = true by unfold Em;rw [ee,gn];simp [hh1,hh2]);have Eh:1≤x.next∧x.next≤1000000000:=(by simpa using ee);obtain ⟨Eh,D8⟩:=Eh;clear ee gn;go_enter Tryz.func28,Tryz.ntmps28;go_wp2_with fail
       rw [ry.out]
       go_wp2_with (first
        | (go_at_call 68;refine (jc x.next 1 1000000000 _).mono ?_;rw [Jf.out];rintro e w1 ⟨rfl,mr⟩;simp only [← mr];clear mr w1)
        | (go_at_call 69;refine (pU x.weights.pack x.weights.af x.weights.al _).mono ?_;rw [Du.out];rintro e w2 ⟨rfl,ao⟩;obtain ⟨cb,cG⟩:=ay ao;have cI:w.heap.size < w2.heap.size:=(sq ao.size)))
       have Ji:=I vk;have NV:=I b5;have Z8:x.J.length≤12:=O;go_wp2_with fail
       go_loopw [37] (fun i wr=>∃k:Nat,k≤x.aa.length∧i = .int .i64 k∧Hid (∀j,j < k→bI (dY x) dQ x.aa j = true)∧Below w0.heap.size w0 wr) (fun i _=>x.aa.length - (intOf i).toNat)
       case atStart=>exact ⟨0,Nat.zero_le _,rfl,(fun j hj=>by omega),ao⟩
       case round =>
        obtain ⟨k,hk,rfl,hall,az⟩:=hrel;by_cases ap:k < x.aa.length
        ·obtain rfl | ⟨j,rfl⟩:k = 0∨∃j,k = j+1:=by cases k with | zero=>exact .inl rfl | succ j=>exact .inr ⟨j,rfl⟩
         ·obtain ⟨b,o,ck3,Fk3,rfl,aak,jd,f',NW,cX⟩:=Sl.get (α:=ba) (A:=bG) (c:=bD) bQ ap;have CJ:=f';obtain ⟨jM,jO,sN,jE,jF,sO,JG,JH,zM,qY,Gt,Gw,xg,qA⟩:=iy CJ;subst JG;obtain ⟨q0,q1,q2,q3,q4,q5⟩:=lb 6 cX;clear cX CJ JH;simp only [Nat.zero_mul,Nat.add_zero] at q0 q1 q2 q3 q4 q5;have bF:Below w.heap.size w wr:=ah jp az;have jZ:=(ay az).1;replace c0:=(jZ _ _ ce).trans c0;replace c1:=(jZ _ _ ce).trans c1;replace c2:=(jZ _ _ ce).trans c2;replace c3:=(jZ _ _ ce).trans c3;replace c4:=(jZ _ _ ce).trans c4;replace c5:=(jZ _ _ ce).trans c5;clear jZ;replace q0:=r' bF q0 jd;replace q1:=r' bF q1 jd;replace q2:=r' bF q2 jd;replace q3:=r' bF q3 jd;replace q4:=r' bF q4 jd;replace q5:=r' bF q5 jd;have WU:b < wr.heap.size:=(by have:=bF.size;omega);have tX:w.heap.size < wr.heap.size:=(by have:=az.size;omega);have dj:=Mu.out (0) ap;obtain ⟨a,b2,L,ub,hus,hfo,hL0,kC⟩:=E8 x x.aa[0];have HU:=I hus;clear hus;have vR:L≤12:=O;cases h1:Aj x.aa[0] with
          | false =>have H1:=I h1;as_aux_lemma =>have hp:=pV (ok:=dY x) (less:=dQ) ap (show dY x x.aa[0] = false by unfold dY;rw [h1];rfl);exact rq
          | true =>
            have H1:=I h1;cases ub with
            | false =>
              as_aux_lemma =>
               have hp:=pV (ok:=dY x) (less:=dQ) ap (show dY x x.aa[0] = false by unfold dY;rw [hfo];simp);exact rq
            | true =>
              by_cases ha:a≤x.aa[0].aw
              ·have Cu:decide (x.aa[0].aw < a) = false:=decide_eq_false O;by_cases hb:b2≤x.aa[0].mem
               ·have Cv:decide (x.aa[0].mem < b2) = false:=decide_eq_false O;by_cases hl:L≤x.aa[0].aq
                ·have gw:decide (x.aa[0].aq < L) = false:=decide_eq_false O;as_aux_lemma =>
                  have hp:=pV (ok:=dY x) (less:=dQ) ap (show dY x x.aa[0] = true by unfold dY;rw [h1,hfo];simp [ha,hb,hl]);have HN:=I (gq hall.out hp);clear hp;go_wp2_with (go_at_call 70;refine (iQ x _ _ x.aa[0].name _ (aJ h bu) Ji.out).mono ?_;rw [HU.out];rintro e w5 ⟨rfl,bt⟩;obtain ⟨kO,j'⟩:=ay bt;have Es:w.heap.size < w5.heap.size:=(sq bt.size);have IV:b < w5.heap.size:=(sq bt.size);(try have qe:wr.heap.size < w5.heap.size:=(sq bt.size)))
                  clear q0 q1 q2 q3 q4 q5;refine aF _ U' U' (aj _) ?_
                  repeat ((first | refine aG Z ?_ | refine aH _ Z FN ?_);simp only [Act.put,pz])
                  refine aN ?_;intro wn hn;replace hn:=hn.out;obtain ⟨j9,kI⟩:=ay hn;have jG:w.heap.size < wn.heap.size:=sq hn.size;have qd:b < wn.heap.size:=sq hn.size;try (have tM:wr.heap.size < wn.heap.size:=sq hn.size)
                  go_wp2;exact ⟨⟨0+1,O,N',HN.out,bu⟩,by simp [intOf];omega⟩
                ·have gw:decide (x.aa[0].aq < L) = true:=decide_eq_true O;as_aux_lemma =>have hp:=pV (ok:=dY x) (less:=dQ) ap (show dY x x.aa[0] = false by unfold dY;rw [h1,hfo];simp [ha,hb,hl]);exact rq
               ·have Cv:decide (x.aa[0].mem < b2) = true:=decide_eq_true O;as_aux_lemma =>have hp:=pV (ok:=dY x) (less:=dQ) ap (show dY x x.aa[0] = false by unfold dY;rw [h1,hfo];simp [ha,hb]);exact rq
              ·have Cu:decide (x.aa[0].aw < a) = true:=decide_eq_true O;as_aux_lemma =>have hp:=pV (ok:=dY x) (less:=dQ) ap (show dY x x.aa[0] = false by unfold dY;rw [h1,hfo];simp [ha]);exact rq
         ·obtain ⟨b,o,ck3,Fk3,rfl,aak,jd,f',NW,cX⟩:=Sl.get (α:=ba) (A:=bG) (c:=bD) bQ ap;have CJ:=f';obtain ⟨jM,jO,sN,jE,jF,sO,JG,JH,zM,qY,Gt,Gw,xg,qA⟩:=iy CJ;subst JG;obtain ⟨q0,q1,q2,q3,q4,q5⟩:=lb 6 cX;clear cX CJ JH;obtain ⟨b',o',ck4,Fk4,e,anJ,sZ,pr,afh,eA⟩:=Sl.get (α:=ba) (c:=bD) bQ (show j < x.aa.length by omega);have P9:=pr;obtain ⟨vS,vT,Bc,Jj,Jk,Xk,aal,aam,IZ,wL,JY,JZ,OV,KE⟩:=iy P9;subst aal;obtain ⟨rfl,rfl⟩:b' = b∧o' = o:=by simpa using e.symm
          clear e;obtain ⟨p0,p1,p2,p3,p4,p5⟩:=lb 6 eA;clear eA P9 aam;have bF:Below w.heap.size w wr:=ah jp az;have jZ:=(ay az).1;replace c0:=(jZ _ _ ce).trans c0;replace c1:=(jZ _ _ ce).trans c1;replace c2:=(jZ _ _ ce).trans c2;replace c3:=(jZ _ _ ce).trans c3;replace c4:=(jZ _ _ ce).trans c4;replace c5:=(jZ _ _ ce).trans c5;clear jZ;replace q0:=r' bF q0 jd;replace q1:=r' bF q1 jd;replace q2:=r' bF q2 jd;replace q3:=r' bF q3 jd;replace q4:=r' bF q4 jd;replace q5:=r' bF q5 jd;replace p0:=r' bF p0 sZ;replace p1:=r' bF p1 sZ;replace p2:=r' bF p2 sZ;replace p3:=r' bF p3 sZ;replace p4:=r' bF p4 sZ;replace p5:=r' bF p5 sZ;have WU:b' < wr.heap.size:=(by have:=bF.size;omega);have tX:w.heap.size < wr.heap.size:=(by have:=az.size;omega);have dj:=Mu.out (j+1) ap;have nG:IntKind.i64.wrap (j:Int) = j:=IntWalk.i64_in _ O;have jt:j < x.aa.length:=O;clear p1 p2 p3 p4 p5 wL KE JY JZ OV;obtain ⟨a,b2,L,ub,hus,hfo,hL0,kC⟩:=E8 x x.aa[j+1];have HU:=I hus;clear hus;have vR:L≤12:=O;cases h1:Aj x.aa[j+1] with
          | false =>have H1:=I h1;obtain ⟨u3,h3⟩:∃u,dQ x.aa[j] x.aa[j+1] = u:=⟨_,rfl⟩;as_aux_lemma =>have hp:=nM (ok:=dY x) (less:=dQ) ap (show dY x x.aa[j+1] = false by unfold dY;rw [h1];rfl) (show dQ x.aa[j] x.aa[j+1] = u3 from h3);exact o3
          | true =>
            have H1:=I h1;cases h3:Op.bytesLess x.aa[j].name.toList x.aa[j+1].name.toList with
            | false =>obtain ⟨v,hv⟩:∃v,dY x x.aa[j+1] = v:=⟨_,rfl⟩;as_aux_lemma =>have hp:=nM (ok:=dY x) (less:=dQ) ap (show dY x x.aa[j+1] = v by exact hv) (show dQ x.aa[j] x.aa[j+1] = false from h3);exact o3
            | true =>
              cases ub with
              | false =>
                as_aux_lemma =>
                 have hp:=nM (ok:=dY x) (less:=dQ) ap (show dY x x.aa[j+1] = false by unfold dY;rw [hfo];simp) (show dQ x.aa[j] x.aa[j+1] = true from h3);exact o3
              | true =>
                by_cases ha:a≤x.aa[j+1].aw
                ·have Cu:decide (x.aa[j+1].aw < a) = false:=decide_eq_false O;by_cases hb:b2≤x.aa[j+1].mem
                 ·have Cv:decide (x.aa[j+1].mem < b2) = false:=decide_eq_false O;by_cases hl:L≤x.aa[j+1].aq
                  ·have gw:decide (x.aa[j+1].aq < L) = false:=decide_eq_false O;as_aux_lemma =>
                    have hp:=nM (ok:=dY x) (less:=dQ) ap (show dY x x.aa[j+1] = true by unfold dY;rw [h1,hfo];simp [ha,hb,hl]) (show dQ x.aa[j] x.aa[j+1] = true from h3);try simp only [Bool.and_false,Bool.and_true,Bool.false_and,Bool.and_self] at hp
                    have HN:=I (gq hall.out hp);clear hp;go_wp2_with (go_at_call 70;refine (iQ x _ _ x.aa[j+1].name _ (aJ h bu) Ji.out).mono ?_;rw [HU.out];rintro e w5 ⟨rfl,bt⟩;obtain ⟨kO,j'⟩:=ay bt;have Es:w.heap.size < w5.heap.size:=(sq bt.size);have IV:b' < w5.heap.size:=(sq bt.size);(try have qe:wr.heap.size < w5.heap.size:=(sq bt.size)))
                    clear q0 q1 q2 q3 q4 q5;refine aF _ U' U' (aj _) ?_
                    repeat ((first | refine aG Z ?_ | refine aH _ Z FC ?_);simp only [Act.put,pz])
                    refine aN ?_;intro wn hn;replace hn:=hn.out;obtain ⟨j9,kI⟩:=ay hn;have jG:w.heap.size < wn.heap.size:=sq hn.size;have qd:b' < wn.heap.size:=sq hn.size;try (have tM:wr.heap.size < wn.heap.size:=sq hn.size)
                    go_wp2;exact ⟨⟨j+1+1,O,N',HN.out,bu⟩,by simp [intOf];omega⟩
                  ·have gw:decide (x.aa[j+1].aq < L) = true:=decide_eq_true O;as_aux_lemma =>have hp:=nM (ok:=dY x) (less:=dQ) ap (show dY x x.aa[j+1] = false by unfold dY;rw [h1,hfo];simp [ha,hb,hl]) (show dQ x.aa[j] x.aa[j+1] = true from h3);exact o3
                 ·have Cv:decide (x.aa[j+1].mem < b2) = true:=decide_eq_true O;as_aux_lemma =>have hp:=nM (ok:=dY x) (less:=dQ) ap (show dY x x.aa[j+1] = false by unfold dY;rw [h1,hfo];simp [ha,hb]) (show dQ x.aa[j] x.aa[j+1] = true from h3);exact o3
                ·have Cu:decide (x.aa[j+1].aw < a) = true:=decide_eq_true O;as_aux_lemma =>have hp:=nM (ok:=dY x) (less:=dQ) ap (show dY x x.aa[j+1] = false by unfold dY;rw [h1,hfo];simp [ha]) (show dQ x.aa[j] x.aa[j+1] = true from h3);exact o3
        ·have bz:k = x.aa.length:=O;subst bz;have aqA:=I hall.out;clear hall;obtain ⟨wp,ue⟩:∃wp,wp = wr:=⟨_,rfl⟩;subst ue;have Mv:=az;have Z':w0.heap.size≤wp.heap.size:=az.size;clear az ap;have JI:=(ay Mv).1;have cp0:=(JI _ _ ce).trans c0;have cp1:=(JI _ _ ce).trans c1;have cp2:=(JI _ _ ce).trans c2;have cp3:=(JI _ _ ce).trans c3;have cp4:=(JI _ _ ce).trans c4;have cp5:=(JI _ _ ce).trans c5;clear JI;have Ta:w.heap.size < wp.heap.size:=O;have x9:=@run_makeMap Tryz.prog;go_wp2_with fail
         go_loopw [97] (fun i wr=>∃k:Nat,k≤x.J.length∧i = .int .i64 k∧Hid (∀j,j < k→bI (jT x) dw x.J j = true)∧Hid (∀j,j < k→DN x.J j = true)∧wr.ownsMap Tryz.prog 3 (plainElem Tryz.prog 4) wp.heap.size k (Ex (x.J.take k))∧Below wp.heap.size wp wr) (fun i _=>x.J.length - (intOf i).toNat)
         case atStart=>exact ⟨0,Nat.zero_le _,rfl,(fun j hj=>by omega),(fun j hj=>by omega),World.ownsMap_made _ _ _ _,ak (aj _) _⟩
         case round =>
          obtain ⟨k,hk,rfl,hall,hfresh,aR,U3⟩:=hrel;have az:Below w0.heap.size w0 wr:=ah Mv U3;by_cases ap:k < x.J.length
          ·obtain rfl | ⟨j,rfl⟩:k = 0∨∃j,k = j+1:=by cases k with | zero=>exact .inl rfl | succ j=>exact .inr ⟨j,rfl⟩
           ·obtain ⟨b,o,ck3,Fk3,rfl,aak,jd,f',NW,cX⟩:=Sl.get (α:=ag) (A:=dn) (c:=bW) dM ap;have CJ:=f';obtain ⟨fC,fD,yD,gB,gG,AA,bT,bU,qI,JG,JH,Dv,yE,FY,FZ,Dw,AB,qJ,aeg,Wv⟩:=kE CJ;subst JG;obtain ⟨q0,q1,q2,q3,q4,q5,q6,q7,q8⟩:=om 9 cX;clear cX CJ JH;simp only [Nat.zero_mul,Nat.add_zero] at q0 q1 q2 q3 q4 q5 q6 q7 q8;obtain ⟨yR,don,U4,Gon,hdc,hdG,kG,_⟩:=f';have ku:rd w x.J[0].aS [.string x.J[0].aS.name,.slice fC x.J[0].aS.labels.length fD,.int .i64 x.J[0].aS.aw,.int .i64 x.J[0].aS.mem,.int .i64 x.J[0].aS.av,.slice gB x.J[0].aS.ai.length gG,.slice bT x.J[0].aS.ae.length bU] U4:=by
             exact pa
            clear hdc hdG kG;have bF:Below w.heap.size w wr:=ah jp az;have jZ:=(ay az).1;replace c0:=(jZ _ _ ce).trans c0;replace c1:=(jZ _ _ ce).trans c1;replace c2:=(jZ _ _ ce).trans c2;replace c3:=(jZ _ _ ce).trans c3;replace c4:=(jZ _ _ ce).trans c4;replace c5:=(jZ _ _ ce).trans c5;clear jZ;replace q0:=r' bF q0 jd;replace q1:=r' bF q1 jd;replace q2:=r' bF q2 jd;replace q3:=r' bF q3 jd;replace q4:=r' bF q4 jd;replace q5:=r' bF q5 jd;replace q6:=r' bF q6 jd;replace q7:=r' bF q7 jd;replace q8:=r' bF q8 jd;have WU:b < wr.heap.size:=(by have:=bF.size;omega);have tX:w.heap.size < wr.heap.size:=(by have:=az.size;omega);have Ue:=dM.Ec x.J[0] (List.getElem_mem ..);have S7:=Ue.1;have S8:=Ue.2;have dj:=vQ.out (0) ap;have Ei:IntKind.i64.wrap (x.next - 1) = x.next - 1:=IntWalk.i64_in _ O;obtain ⟨sv,pl⟩:∃sv,cV (x.J.take (0)) x.J[0].seq = sv:=⟨_,rfl⟩;have BE:=sG ap;rw [pl] at BE;have cL:=aeY (x.J.take (0)) x.J[0].seq Ue;rw [pl] at cL;have nk:=I cL;clear cL;have Lq:=I (show ∀wq,Below (wr.alloc (.cells #[.string x.J[0].aS.name,.slice fC x.J[0].aS.labels.length fD,.int .i64 x.J[0].aS.aw,.int .i64 x.J[0].aS.mem,.int .i64 x.J[0].aS.av,.slice gB x.J[0].aS.ai.length gG,.slice bT x.J[0].aS.ae.length bU,.string x.J[0].on,.int .i64 x.J[0].seq] 48)).heap.size (wr.alloc (.cells #[.string x.J[0].aS.name,.slice fC x.J[0].aS.labels.length fD,.int .i64 x.J[0].aS.aw,.int .i64 x.J[0].aS.mem,.int .i64 x.J[0].aS.av,.slice gB x.J[0].aS.ai.length gG,.slice bT x.J[0].aS.ae.length bU,.string x.J[0].on,.int .i64 x.J[0].seq] 48)) wq→(Instr.lookup 123 (.map (some wp.heap.size)) (.int .i64 x.J[0].seq) false).run Tryz.prog wq = .ok (.bool sv) wq from fun wq hq=>NY ((aR.alloc _).kept (grown_of hq) S') Oy Tryz.underlying123 Tryz.underlying4 (abl wq) (Maps.keyOf_int_mk Tryz.underlying3 (WalkArith.wf_i64 Ue)) nk.out);obtain ⟨wi,hwi⟩:∃wi,(decide ((1:Int)≤x.J[0].seq)&&decide (x.J[0].seq≤x.next - 1)) = wi:=⟨_,rfl⟩;have LQ:=I hwi;cases h1:GU x.J[0].aS with
            | false =>have H1:=I h1;as_aux_lemma =>have hp:=pV (ok:=jT x) (less:=dw) ap (show jT x x.J[0] = false by unfold jT;rw [h1];rfl);have HF:=I (jP ap hp);clear hp;exact uL
            | true =>
              have H1:=I h1;cases sv with
              | true =>
                as_aux_lemma =>
                 have HF:=I (DR ap BE);exact uL
              | false =>
                cases wi with
                | false =>
                  as_aux_lemma =>
                   have hp:=pV (ok:=jT x) (less:=dw) ap (show jT x x.J[0] = false by unfold jT;rw [hwi];simp);have HF:=I (jP ap hp);clear hp;exact uL
                | true =>
                  cases ed:(x.J[0].on.toList == []) with
                  | true =>have Hg:=I (show True from trivial);have OW:(x.J[0].on.toList != []) = false:=(by unfold bne;rw [ed];rfl);as_aux_lemma =>have hp:=pV (ok:=jT x) (less:=dw) ap (show jT x x.J[0] = true by unfold jT;rw [h1,hwi,ed];rfl);exact Ln
                  | false =>
                    have OW:(x.J[0].on.toList != []) = true:=(by unfold bne;rw [ed];rfl);rcases yg (iM x.J[0].on) x.aa with hi | ⟨iz,hiz,hi⟩
                    ·have Hg:=I hi;as_aux_lemma =>have hp:=pV (ok:=jT x) (less:=dw) ap (show jT x x.J[0] = false by unfold jT;rw [hi,ed];simp);have HF:=I (jP ap hp);clear hp hi;exact uL
                    ·have Hg:=I hi;have S9:decide ((iz:Int) < 0) = false:=decide_eq_false O;have Ct:jT x x.J[0] = true:=(by unfold jT;rw [h1,hwi,ed,hi];simp);clear hi;as_aux_lemma =>have hp:=pV (ok:=jT x) (less:=dw) ap (show jT x x.J[0] = true by exact Ct);exact Ln
           ·obtain ⟨b,o,ck3,Fk3,rfl,aak,jd,f',NW,cX⟩:=Sl.get (α:=ag) (A:=dn) (c:=bW) dM ap;have CJ:=f';obtain ⟨fC,fD,yD,gB,gG,AA,bT,bU,qI,JG,JH,Dv,yE,FY,FZ,Dw,AB,qJ,aeg,Wv⟩:=kE CJ;subst JG;obtain ⟨q0,q1,q2,q3,q4,q5,q6,q7,q8⟩:=om 9 cX;clear cX CJ JH;obtain ⟨b',o',ck4,Fk4,e,anJ,sZ,pr,afh,eA⟩:=Sl.get (α:=ag) (c:=bW) dM (show j < x.J.length by omega);have P9:=pr;obtain ⟨BK,BL,Q9,Ed,Ee,U5,uj,um,JD,aal,aam,YE,Fa,NZ,N7,J4,Hl,yF,alK,adB⟩:=kE P9;subst aal;obtain ⟨rfl,rfl⟩:b' = b∧o' = o:=by simpa using e.symm
            clear e;obtain ⟨p0,p1,p2,p3,p4,p5,p6,p7,p8⟩:=om 9 eA;clear eA P9 aam;obtain ⟨yR,don,U4,Gon,hdc,hdG,kG,_⟩:=f';have ku:rd w x.J[j+1].aS [.string x.J[j+1].aS.name,.slice fC x.J[j+1].aS.labels.length fD,.int .i64 x.J[j+1].aS.aw,.int .i64 x.J[j+1].aS.mem,.int .i64 x.J[j+1].aS.av,.slice gB x.J[j+1].aS.ai.length gG,.slice bT x.J[j+1].aS.ae.length bU] U4:=by
             exact pa
            clear hdc hdG kG;have bF:Below w.heap.size w wr:=ah jp az;have jZ:=(ay az).1;replace c0:=(jZ _ _ ce).trans c0;replace c1:=(jZ _ _ ce).trans c1;replace c2:=(jZ _ _ ce).trans c2;replace c3:=(jZ _ _ ce).trans c3;replace c4:=(jZ _ _ ce).trans c4;replace c5:=(jZ _ _ ce).trans c5;clear jZ;replace q0:=r' bF q0 jd;replace q1:=r' bF q1 jd;replace q2:=r' bF q2 jd;replace q3:=r' bF q3 jd;replace q4:=r' bF q4 jd;replace q5:=r' bF q5 jd;replace q6:=r' bF q6 jd;replace q7:=r' bF q7 jd;replace q8:=r' bF q8 jd;replace p0:=r' bF p0 sZ;replace p1:=r' bF p1 sZ;replace p2:=r' bF p2 sZ;replace p3:=r' bF p3 sZ;replace p4:=r' bF p4 sZ;replace p5:=r' bF p5 sZ;replace p6:=r' bF p6 sZ;replace p7:=r' bF p7 sZ;replace p8:=r' bF p8 sZ;have WU:b' < wr.heap.size:=(by have:=bF.size;omega);have tX:w.heap.size < wr.heap.size:=(by have:=az.size;omega);have Ue:=dM.Ec x.J[j+1] (List.getElem_mem ..);have S7:=Ue.1;have S8:=Ue.2;have dj:=vQ.out (j+1) ap;have Ei:IntKind.i64.wrap (x.next - 1) = x.next - 1:=IntWalk.i64_in _ O;have nG:IntKind.i64.wrap (j:Int) = j:=IntWalk.i64_in _ O;have jt:j < x.J.length:=O;clear p1 p2 p3 p4 p5 p6 p7 p8 Fa Hl yF NZ N7 J4 alK adB;obtain ⟨sv,pl⟩:∃sv,cV (x.J.take (j+1)) x.J[j+1].seq = sv:=⟨_,rfl⟩;have BE:=sG ap;rw [pl] at BE;have cL:=aeY (x.J.take (j+1)) x.J[j+1].seq Ue;rw [pl] at cL;have nk:=I cL;clear cL;have Lq:=I (show ∀wq,Below (wr.alloc (.cells #[.string x.J[j+1].aS.name,.slice fC x.J[j+1].aS.labels.length fD,.int .i64 x.J[j+1].aS.aw,.int .i64 x.J[j+1].aS.mem,.int .i64 x.J[j+1].aS.av,.slice gB x.J[j+1].aS.ai.length gG,.slice bT x.J[j+1].aS.ae.length bU,.string x.J[j+1].on,.int .i64 x.J[j+1].seq] 48)).heap.size (wr.alloc (.cells #[.string x.J[j+1].aS.name,.slice fC x.J[j+1].aS.labels.length fD,.int .i64 x.J[j+1].aS.aw,.int .i64 x.J[j+1].aS.mem,.int .i64 x.J[j+1].aS.av,.slice gB x.J[j+1].aS.ai.length gG,.slice bT x.J[j+1].aS.ae.length bU,.string x.J[j+1].on,.int .i64 x.J[j+1].seq] 48)) wq→(Instr.lookup 123 (.map (some wp.heap.size)) (.int .i64 x.J[j+1].seq) false).run Tryz.prog wq = .ok (.bool sv) wq from fun wq hq=>NY ((aR.alloc _).kept (grown_of hq) S') Oy Tryz.underlying123 Tryz.underlying4 (abl wq) (Maps.keyOf_int_mk Tryz.underlying3 (WalkArith.wf_i64 Ue)) nk.out);obtain ⟨wi,hwi⟩:∃wi,(decide ((1:Int)≤x.J[j+1].seq)&&decide (x.J[j+1].seq≤x.next - 1)) = wi:=⟨_,rfl⟩;have LQ:=I hwi;cases h1:GU x.J[j+1].aS with
            | false =>have H1:=I h1;obtain ⟨u3,h3⟩:∃u,dw x.J[j] x.J[j+1] = u:=⟨_,rfl⟩;as_aux_lemma =>have hp:=nM (ok:=jT x) (less:=dw) ap (show jT x x.J[j+1] = false by unfold jT;rw [h1];rfl) (show dw x.J[j] x.J[j+1] = u3 from h3);exact LF
            | true =>
              have H1:=I h1;cases h3:Op.bytesLess x.J[j].aS.name.toList x.J[j+1].aS.name.toList with
              | false =>
                as_aux_lemma =>
                 obtain ⟨v,hv⟩:∃v,jT x x.J[j+1] = v:=⟨_,rfl⟩;have hp:=nM (ok:=jT x) (less:=dw) ap (show jT x x.J[j+1] = v by exact hv) (show dw x.J[j] x.J[j+1] = false from h3);try simp only [Bool.and_false,Bool.and_true,Bool.false_and,Bool.and_self] at hp
                 have HF:=I (jP ap hp);clear hp hv;exact uF
              | true =>
                cases sv with
                | true =>
                  as_aux_lemma =>
                   have HF:=I (DR ap BE);exact uF
                | false =>
                  cases wi with
                  | false =>
                    as_aux_lemma =>
                     have hp:=nM (ok:=jT x) (less:=dw) ap (show jT x x.J[j+1] = false by unfold jT;rw [hwi];simp) (show dw x.J[j] x.J[j+1] = true from h3);exact LF
                  | true =>
                    cases ed:(x.J[j+1].on.toList == []) with
                    | true =>have Hg:=I (show True from trivial);have OW:(x.J[j+1].on.toList != []) = false:=(by unfold bne;rw [ed];rfl);as_aux_lemma =>have hp:=nM (ok:=jT x) (less:=dw) ap (show jT x x.J[j+1] = true by unfold jT;rw [h1,hwi,ed];rfl) (show dw x.J[j] x.J[j+1] = true from h3);exact Li
                    | false =>
                      have OW:(x.J[j+1].on.toList != []) = true:=(by unfold bne;rw [ed];rfl);rcases yg (iM x.J[j+1].on) x.aa with hi | ⟨iz,hiz,hi⟩
                      ·have Hg:=I hi;as_aux_lemma =>
                        have hp:=nM (ok:=jT x) (less:=dw) ap (show jT x x.J[j+1] = false by unfold jT;rw [hi,ed];simp) (show dw x.J[j] x.J[j+1] = true from h3);try simp only [Bool.and_false,Bool.and_true,Bool.false_and,Bool.and_self] at hp
                        have HF:=I (jP ap hp);clear hp hi;exact uF
                      ·have Hg:=I hi;have S9:decide ((iz:Int) < 0) = false:=decide_eq_false O;have Ct:jT x x.J[j+1] = true:=(by unfold jT;rw [h1,hwi,ed,hi];simp);clear hi;as_aux_lemma =>have hp:=nM (ok:=jT x) (less:=dw) ap (show jT x x.J[j+1] = true by exact Ct) (show dw x.J[j] x.J[j+1] = true from h3);exact Li
          ·have bz:k = x.J.length:=O;subst bz;have HF:=I (OX S6.out aqA.out hall.out hfresh.out);go_wp2;go_ret
           exact ⟨by rw [HF.out];rfl,ah jp az⟩
  ·have HF:=I (oU (x:=x) XM);exact uZ
 ·have HF:=I (oU (x:=x) XN);exact uZ
end Go.Proofs.YtjahcnjmjahbaaaGreat
