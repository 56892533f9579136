/- ClusterOk, of the reference, where a cluster's parts are small. No condition. -/
import Derived.Test.YtajbbmembionpaaGreatSortTaintsP
namespace Go.Proofs.YtajbbmembionpaaGreat
open Go.ChangeShapes Go.WideShapes Go.ChangeAt Go.RowKit
set_option linter.unusedVariables false
set_option linter.unusedSimpArgs false
set_option maxHeartbeats 16000000
set_option maxRecDepth 100000
theorem Dx (x:aU) (cs:List Value) (F:List Nat) (w:World) (h:rd w x cs F) (cA:(x.aa.length:Int)≤1048576) (vk:(x.V.length:Int)≤1048576) (AU:∀y∈x.aa,U6 y) (Rk:∀y∈x.V,Xl y.aS) :
 Calls Tryz.prog 20 #[.agg cs.toArray] w fun e w'=>e = .returned (.bool (iI x))∧Below w.heap.size w w':=by
 have Ka:=I (fun k (hk:k < x.aa.length)=>AU x.aa[k] (List.getElem_mem ..));have Kb:=I (fun k (hk:k < x.V.length)=>Rk x.V[k] (List.getElem_mem ..));clear AU Rk;have hr:=h;obtain ⟨bG,bD,fQ,dn,bW,jg,aE,hF,bQ,dM,hnext,aV,aP,aW⟩:=aO hr;subst aE;clear hF hr;obtain ⟨w0,hw0⟩:∃w0,w.alloc (.cells #[.slice bG x.aa.length bD,.slice dn x.V.length bW,.int .i64 x.next,.int .i64 x.weights.pack,.int .i64 x.weights.af,.int .i64 x.weights.an] 29) = w0:=⟨_,rfl⟩;have c0:w0.cell? ⟨w.heap.size,0,none⟩ = some (.slice bG x.aa.length bD):=by rw [← hw0,cell_of_row _ _ _ _ _ _ (heap_alloc_new w _)];rfl
 have c1:w0.cell? ⟨w.heap.size,1,none⟩ = some (.slice dn x.V.length bW):=by rw [← hw0,cell_of_row _ _ _ _ _ _ (heap_alloc_new w _)];rfl
 have c2:w0.cell? ⟨w.heap.size,2,none⟩ = some (.int .i64 x.next):=by rw [← hw0,cell_of_row _ _ _ _ _ _ (heap_alloc_new w _)];rfl
 have c3:w0.cell? ⟨w.heap.size,3,none⟩ = some (.int .i64 x.weights.pack):=by rw [← hw0,cell_of_row _ _ _ _ _ _ (heap_alloc_new w _)];rfl
 have c4:w0.cell? ⟨w.heap.size,4,none⟩ = some (.int .i64 x.weights.af):=by rw [← hw0,cell_of_row _ _ _ _ _ _ (heap_alloc_new w _)];rfl
 have c5:w0.cell? ⟨w.heap.size,5,none⟩ = some (.int .i64 x.weights.an):=by rw [← hw0,cell_of_row _ _ _ _ _ _ (heap_alloc_new w _)];rfl
 have mB:Below w.heap.size w w0:=by rw [← hw0];exact ak (aj _) _
 have cV:w.heap.size < w0.heap.size:=by rw [← hw0];simp
 have pJ:=I hw0;clear hw0;by_cases hh1:(x.aa.length:Int)≤8
 ·by_cases hh2:(x.V.length:Int)≤12
  ·cases fl:(decide ((1:Int)≤x.next)&&decide (x.next≤1000000000)) with
   | false =>have Jf:=I fl;have HF:=I (oU (x:=x) Vz);clear fl;exact td
   | true =>
     have Jf:=I fl;cases gN:zL x.weights.pack x.weights.af x.weights.an with
     | false =>have Du:=I gN;have HF:=I (oU (x:=x) VA);clear fl gN;exact td
     | true =>
       have Du:=I gN;have XR:=I (show Em x = true by unfold Em;rw [fl,gN];simp [hh1,hh2]);have Mr:1≤x.next∧x.next≤1000000000:=(by simpa using fl);obtain ⟨Mr,EM⟩:=Mr;clear fl gN;go_enter Tryz.func20,Tryz.ntmps20;go_wp2_with fail
       rw [pJ.out]
       go_wp2_with (first
        | (go_at_call 48;refine (kH x.next 1 1000000000 _).mono ?_;rw [Jf.out];rintro e w1 ⟨rfl,nH⟩;simp only [← nH];clear nH w1)
        | (go_at_call 49;refine (pW x.weights.pack x.weights.af x.weights.an _).mono ?_;rw [Du.out];rintro e w2 ⟨rfl,ar⟩;obtain ⟨cq,cL⟩:=ay ar;have cw:w.heap.size < w2.heap.size:=(sq ar.size)))
       have Ji:=I vk;have NV:=I cA;have XS:x.V.length≤12:=J;go_wp2_with fail
       go_loopw [3] (fun i wr=>∃k:Nat,k≤x.V.length∧i = .int .i64 k∧Hid (∀j,j < k→bS (jT x) dw x.V j = true)∧Hid (∀j,j < k→DN x.V j = true)∧Below w0.heap.size w0 wr) (fun i _=>x.V.length - (intOf i).toNat)
       case atStart=>exact ⟨0,Nat.zero_le _,rfl,(fun j hj=>by omega),(fun j hj=>by omega),ar⟩
       case round =>
        obtain ⟨k,hk,rfl,hall,hfresh,aR⟩:=hrel;by_cases ax:k < x.V.length
        ·obtain rfl | ⟨j,rfl⟩:k = 0∨∃j,k = j+1:=by cases k with | zero=>exact .inl rfl | succ j=>exact .inr ⟨j,rfl⟩
         ·obtain ⟨b,o,ck3,Fk3,rfl,aak,jd,hr3,NW,dm⟩:=Sl.get (α:=ag) (A:=dn) (c:=bW) dM ax;have CJ:=hr3;obtain ⟨fC,fD,yD,gB,gG,AA,bT,bU,qI,JG,JH,Dv,yE,FY,FZ,Dw,AB,qJ,aeg,Wv⟩:=kE CJ;subst JG;obtain ⟨q0,q1,q2,q3,q4,q5,q6,q7,q8⟩:=vL 9 dm;clear dm CJ JH;simp only [Nat.zero_mul,Nat.add_zero] at q0 q1 q2 q3 q4 q5 q6 q7 q8;obtain ⟨yR,don,U4,Gon,hdc,hdG,kG,_⟩:=hr3;have ku:rd w x.V[0].aS [.string x.V[0].aS.name,.slice fC x.V[0].aS.labels.length fD,.int .i64 x.V[0].aS.az,.int .i64 x.V[0].aS.mem,.int .i64 x.V[0].aS.aw,.slice gB x.V[0].aS.ai.length gG,.slice bT x.V[0].aS.ae.length bU] U4:=by
           exact Dg
          clear hdc hdG kG;have b9:Below w.heap.size w wr:=ah mB aR;have jZ:=(ay aR).1;replace c0:=(jZ _ _ cV).trans c0;replace c1:=(jZ _ _ cV).trans c1;replace c2:=(jZ _ _ cV).trans c2;replace c3:=(jZ _ _ cV).trans c3;replace c4:=(jZ _ _ cV).trans c4;replace c5:=(jZ _ _ cV).trans c5;clear jZ;replace q0:=r' b9 q0 jd;replace q1:=r' b9 q1 jd;replace q2:=r' b9 q2 jd;replace q3:=r' b9 q3 jd;replace q4:=r' b9 q4 jd;replace q5:=r' b9 q5 jd;replace q6:=r' b9 q6 jd;replace q7:=r' b9 q7 jd;replace q8:=r' b9 q8 jd;have WU:b < wr.heap.size:=(by have:=b9.size;omega);have tX:w.heap.size < wr.heap.size:=(by have:=aR.size;omega);have Ue:=dM.Ec x.V[0] (List.getElem_mem ..);have XT:=Ue.1;have XU:=Ue.2;have e':=Kb.out (0) ax;have k':IntKind.i64.wrap (x.next - 1) = x.next - 1:=IntWalk.i64_in _ J;obtain ⟨wi,hwi⟩:∃wi,(decide ((1:Int)≤x.V[0].seq)&&decide (x.V[0].seq≤x.next - 1)) = wi:=⟨_,rfl⟩;have LQ:=I hwi;cases h1:GU x.V[0].aS with
          | false =>have H1:=I h1;as_aux_lemma =>have hp:=pV (ok:=jT x) (less:=dw) ax (show jT x x.V[0] = false by unfold jT;rw [h1];rfl);have HF:=I (jP ax hp);clear hp;exact wu
          | true =>
            have H1:=I h1;cases wi with
            | false =>
              as_aux_lemma =>
               have hp:=pV (ok:=jT x) (less:=dw) ax (show jT x x.V[0] = false by unfold jT;rw [hwi];simp);have HF:=I (jP ax hp);clear hp;exact wu
            | true =>
              cases gR:(x.V[0].on.toList == []) with
              | true =>have Hg:=I (show True from trivial);have OW:(x.V[0].on.toList != []) = false:=(by unfold bne;rw [gR];rfl);as_aux_lemma =>have hp:=pV (ok:=jT x) (less:=dw) ax (show jT x x.V[0] = true by unfold jT;rw [h1,hwi,gR];rfl);exact Cf
              | false =>
                have OW:(x.V[0].on.toList != []) = true:=(by unfold bne;rw [gR];rfl);rcases yg (iM x.V[0].on) x.aa with hi | ⟨iz,hiz,hi⟩
                ·have Hg:=I hi;as_aux_lemma =>have hp:=pV (ok:=jT x) (less:=dw) ax (show jT x x.V[0] = false by unfold jT;rw [hi,gR];simp);have HF:=I (jP ax hp);clear hp hi;exact wu
                ·have Hg:=I hi;have Rl:decide ((iz:Int) < 0) = false:=decide_eq_false J;have AW:jT x x.V[0] = true:=(by unfold jT;rw [h1,hwi,gR,hi];simp);clear hi;as_aux_lemma =>have hp:=pV (ok:=jT x) (less:=dw) ax (show jT x x.V[0] = true by exact AW);exact Cf
         ·obtain ⟨b,o,ck3,Fk3,rfl,aak,jd,hr3,NW,dm⟩:=Sl.get (α:=ag) (A:=dn) (c:=bW) dM ax;have CJ:=hr3;obtain ⟨fC,fD,yD,gB,gG,AA,bT,bU,qI,JG,JH,Dv,yE,FY,FZ,Dw,AB,qJ,aeg,Wv⟩:=kE CJ;subst JG;obtain ⟨q0,q1,q2,q3,q4,q5,q6,q7,q8⟩:=vL 9 dm;clear dm CJ JH;obtain ⟨b',o',ck4,Fk4,e,anJ,sZ,hr4,afh,fi⟩:=Sl.get (α:=ag) (c:=bW) dM (show j < x.V.length by omega);have P9:=hr4;obtain ⟨BK,BL,Q9,Ed,Ee,U5,uj,um,JD,aal,aam,YE,Fa,NZ,N7,J4,Hl,yF,alK,adB⟩:=kE P9;subst aal;obtain ⟨rfl,rfl⟩:b' = b∧o' = o:=by simpa using e.symm
          clear e;obtain ⟨p0,p1,p2,p3,p4,p5,p6,p7,p8⟩:=vL 9 fi;clear fi P9 aam;obtain ⟨yR,don,U4,Gon,hdc,hdG,kG,_⟩:=hr3;have ku:rd w x.V[j+1].aS [.string x.V[j+1].aS.name,.slice fC x.V[j+1].aS.labels.length fD,.int .i64 x.V[j+1].aS.az,.int .i64 x.V[j+1].aS.mem,.int .i64 x.V[j+1].aS.aw,.slice gB x.V[j+1].aS.ai.length gG,.slice bT x.V[j+1].aS.ae.length bU] U4:=by
           exact Dg
          clear hdc hdG kG;have b9:Below w.heap.size w wr:=ah mB aR;have jZ:=(ay aR).1;replace c0:=(jZ _ _ cV).trans c0;replace c1:=(jZ _ _ cV).trans c1;replace c2:=(jZ _ _ cV).trans c2;replace c3:=(jZ _ _ cV).trans c3;replace c4:=(jZ _ _ cV).trans c4;replace c5:=(jZ _ _ cV).trans c5;clear jZ;replace q0:=r' b9 q0 jd;replace q1:=r' b9 q1 jd;replace q2:=r' b9 q2 jd;replace q3:=r' b9 q3 jd;replace q4:=r' b9 q4 jd;replace q5:=r' b9 q5 jd;replace q6:=r' b9 q6 jd;replace q7:=r' b9 q7 jd;replace q8:=r' b9 q8 jd;replace p0:=r' b9 p0 sZ;replace p1:=r' b9 p1 sZ;replace p2:=r' b9 p2 sZ;replace p3:=r' b9 p3 sZ;replace p4:=r' b9 p4 sZ;replace p5:=r' b9 p5 sZ;replace p6:=r' b9 p6 sZ;replace p7:=r' b9 p7 sZ;replace p8:=r' b9 p8 sZ;have WU:b' < wr.heap.size:=(by have:=b9.size;omega);have tX:w.heap.size < wr.heap.size:=(by have:=aR.size;omega);have Ue:=dM.Ec x.V[j+1] (List.getElem_mem ..);have XT:=Ue.1;have XU:=Ue.2;have e':=Kb.out (j+1) ax;have k':IntKind.i64.wrap (x.next - 1) = x.next - 1:=IntWalk.i64_in _ J;have AJ:IntKind.i64.wrap (j:Int) = j:=IntWalk.i64_in _ J;have mW:j < x.V.length:=J;clear p1 p2 p3 p4 p5 p6 p7 p8 Fa Hl yF NZ N7 J4 alK adB;obtain ⟨wi,hwi⟩:∃wi,(decide ((1:Int)≤x.V[j+1].seq)&&decide (x.V[j+1].seq≤x.next - 1)) = wi:=⟨_,rfl⟩;have LQ:=I hwi;cases h1:GU x.V[j+1].aS with
          | false =>have H1:=I h1;obtain ⟨u3,h3⟩:∃u,dw x.V[j] x.V[j+1] = u:=⟨_,rfl⟩;as_aux_lemma =>have hp:=nM (ok:=jT x) (less:=dw) ax (show jT x x.V[j+1] = false by unfold jT;rw [h1];rfl) (show dw x.V[j] x.V[j+1] = u3 from h3);exact Er
          | true =>
            have H1:=I h1;cases h3:Op.bytesLess x.V[j].aS.name.toList x.V[j+1].aS.name.toList with
            | false =>
              as_aux_lemma =>
               obtain ⟨v,hv⟩:∃v,jT x x.V[j+1] = v:=⟨_,rfl⟩;have hp:=nM (ok:=jT x) (less:=dw) ax (show jT x x.V[j+1] = v by exact hv) (show dw x.V[j] x.V[j+1] = false from h3);try simp only [Bool.and_false,Bool.and_true,Bool.false_and,Bool.and_self] at hp
               have HF:=I (jP ax hp);clear hp hv;exact vZ
            | true =>
              cases wi with
              | false =>
                as_aux_lemma =>
                 have hp:=nM (ok:=jT x) (less:=dw) ax (show jT x x.V[j+1] = false by unfold jT;rw [hwi];simp) (show dw x.V[j] x.V[j+1] = true from h3);exact Er
              | true =>
                cases gR:(x.V[j+1].on.toList == []) with
                | true =>have Hg:=I (show True from trivial);have OW:(x.V[j+1].on.toList != []) = false:=(by unfold bne;rw [gR];rfl);as_aux_lemma =>have hp:=nM (ok:=jT x) (less:=dw) ax (show jT x x.V[j+1] = true by unfold jT;rw [h1,hwi,gR];rfl) (show dw x.V[j] x.V[j+1] = true from h3);exact BE
                | false =>
                  have OW:(x.V[j+1].on.toList != []) = true:=(by unfold bne;rw [gR];rfl);rcases yg (iM x.V[j+1].on) x.aa with hi | ⟨iz,hiz,hi⟩
                  ·have Hg:=I hi;as_aux_lemma =>
                    have hp:=nM (ok:=jT x) (less:=dw) ax (show jT x x.V[j+1] = false by unfold jT;rw [hi,gR];simp) (show dw x.V[j] x.V[j+1] = true from h3);try simp only [Bool.and_false,Bool.and_true,Bool.false_and,Bool.and_self] at hp
                    have HF:=I (jP ax hp);clear hp hi;exact vZ
                  ·have Hg:=I hi;have Rl:decide ((iz:Int) < 0) = false:=decide_eq_false J;have AW:jT x x.V[j+1] = true:=(by unfold jT;rw [h1,hwi,gR,hi];simp);clear hi;as_aux_lemma =>have hp:=nM (ok:=jT x) (less:=dw) ax (show jT x x.V[j+1] = true by exact AW) (show dw x.V[j] x.V[j+1] = true from h3);exact BE
        ·have bF:k = x.V.length:=J;subst bF;have XV:=I hall.out;have XW:=I hfresh.out;clear hall hfresh;obtain ⟨wp,qB⟩:∃wp,wp = wr:=⟨_,rfl⟩;subst qB;have Rm:=aR;have hzp:w0.heap.size≤wp.heap.size:=aR.size;clear aR ax;have JI:=(ay Rm).1;have cp0:=(JI _ _ cV).trans c0;have cp1:=(JI _ _ cV).trans c1;have cp2:=(JI _ _ cV).trans c2;have cp3:=(JI _ _ cV).trans c3;have cp4:=(JI _ _ cV).trans c4;have cp5:=(JI _ _ cV).trans c5;clear JI;have XY:w.heap.size < wp.heap.size:=J;have Ji:=I vk;have NV:=I cA;have XS:x.V.length≤12:=J;go_wp2_with fail
         go_loopw [6] (fun i wr=>∃k:Nat,k≤x.aa.length∧i = .int .i64 k∧Hid (∀j,j < k→bS (dY x) dQ x.aa j = true)∧Below w0.heap.size w0 wr) (fun i _=>x.aa.length - (intOf i).toNat)
         case atStart=>exact ⟨0,Nat.zero_le _,rfl,(fun j hj=>by omega),Rm⟩
         case round =>
          obtain ⟨k,hk,rfl,hall,aR⟩:=hrel;by_cases ax:k < x.aa.length
          ·obtain rfl | ⟨j,rfl⟩:k = 0∨∃j,k = j+1:=by cases k with | zero=>exact .inl rfl | succ j=>exact .inr ⟨j,rfl⟩
           ·obtain ⟨b,o,ck3,Fk3,rfl,aak,jd,hr3,NW,dm⟩:=Sl.get (α:=ba) (A:=bG) (c:=bD) bQ ax;have CJ:=hr3;obtain ⟨jM,jO,sN,jE,jF,sO,JG,JH,zM,qY,Gt,Gw,xg,qA⟩:=iy CJ;subst JG;obtain ⟨q0,q1,q2,q3,q4,q5⟩:=oW 6 dm;clear dm CJ JH;simp only [Nat.zero_mul,Nat.add_zero] at q0 q1 q2 q3 q4 q5;have b9:Below w.heap.size w wr:=ah mB aR;have jZ:=(ay aR).1;replace c0:=(jZ _ _ cV).trans c0;replace c1:=(jZ _ _ cV).trans c1;replace c2:=(jZ _ _ cV).trans c2;replace c3:=(jZ _ _ cV).trans c3;replace c4:=(jZ _ _ cV).trans c4;replace c5:=(jZ _ _ cV).trans c5;clear jZ;replace q0:=r' b9 q0 jd;replace q1:=r' b9 q1 jd;replace q2:=r' b9 q2 jd;replace q3:=r' b9 q3 jd;replace q4:=r' b9 q4 jd;replace q5:=r' b9 q5 jd;have WU:b < wr.heap.size:=(by have:=b9.size;omega);have tX:w.heap.size < wr.heap.size:=(by have:=aR.size;omega);have e':=Ka.out (0) ax;obtain ⟨a,b2,L,AS,hus,hfo,hL0,hL1⟩:=E8 x x.aa[0];have HU:=I hus;clear hus;have AZ:L≤12:=J;cases h1:Aj x.aa[0] with
            | false =>
              have H1:=I h1;as_aux_lemma =>
               have hp:=pV (ok:=dY x) (less:=dQ) ax (show dY x x.aa[0] = false by unfold dY;rw [h1];rfl);have HF:=I (dW ax hp);clear hp;go_wp2_with fail
               refine aF _ U' U' (aj _) ?_
               repeat ((first | refine aG O ?_ | refine aH _ O Cr ?_);simp only [Act.put,pz])
               refine aN ?_;intro wn Z;replace Z:=Z.out;obtain ⟨lP,mL⟩:=ay Z;have kA:w.heap.size < wn.heap.size:=sq Z.size;have se:b < wn.heap.size:=sq Z.size;try (have sJ:wr.heap.size < wn.heap.size:=sq Z.size)
               exact ej
            | true =>
              have H1:=I h1;cases AS with
              | false =>
                as_aux_lemma =>
                 have hp:=pV (ok:=dY x) (less:=dQ) ax (show dY x x.aa[0] = false by unfold dY;rw [hfo];simp);exact sQ
              | true =>
                by_cases ha:a≤x.aa[0].az
                ·have Ms:decide (x.aa[0].az < a) = false:=decide_eq_false J;by_cases X:b2≤x.aa[0].mem
                 ·have Mt:decide (x.aa[0].mem < b2) = false:=decide_eq_false J;by_cases hl:L≤x.aa[0].av
                  ·have gj:decide (x.aa[0].av < L) = false:=decide_eq_false J;as_aux_lemma =>
                    have hp:=pV (ok:=dY x) (less:=dQ) ax (show dY x x.aa[0] = true by unfold dY;rw [h1,hfo];simp [ha,X,hl]);have HN:=I (gq hall.out hp);clear hp;go_wp2_with fail
                    refine aF _ U' U' (aj _) ?_
                    repeat ((first | refine aG O ?_ | refine aH _ O Cr ?_);simp only [Act.put,pz])
                    refine aN ?_;intro wn Z;replace Z:=Z.out;obtain ⟨lP,mL⟩:=ay Z;have kA:w.heap.size < wn.heap.size:=sq Z.size;have se:b < wn.heap.size:=sq Z.size;try (have sJ:wr.heap.size < wn.heap.size:=sq Z.size)
                    go_wp2_with (go_at_call 52;refine (jm x _ _ x.aa[0].name _ (aJ h bJ) Ji.out).mono ?_;rw [HU.out];rintro e w5 ⟨rfl,bv⟩;obtain ⟨sM,pF⟩:=ay bv;have Es:w.heap.size < w5.heap.size:=(sq bv.size);have IV:b < w5.heap.size:=(sq bv.size);(try have Ad:wr.heap.size < w5.heap.size:=(sq bv.size)))
                    exact ⟨⟨0+1,J,N',HN.out,bJ⟩,by simp [intOf];omega⟩
                  ·have gj:decide (x.aa[0].av < L) = true:=decide_eq_true J;as_aux_lemma =>have hp:=pV (ok:=dY x) (less:=dQ) ax (show dY x x.aa[0] = false by unfold dY;rw [h1,hfo];simp [ha,X,hl]);exact sQ
                 ·have Mt:decide (x.aa[0].mem < b2) = true:=decide_eq_true J;as_aux_lemma =>have hp:=pV (ok:=dY x) (less:=dQ) ax (show dY x x.aa[0] = false by unfold dY;rw [h1,hfo];simp [ha,X]);exact sQ
                ·have Ms:decide (x.aa[0].az < a) = true:=decide_eq_true J;as_aux_lemma =>have hp:=pV (ok:=dY x) (less:=dQ) ax (show dY x x.aa[0] = false by unfold dY;rw [h1,hfo];simp [ha]);exact sQ
           ·obtain ⟨b,o,ck3,Fk3,rfl,aak,jd,hr3,NW,dm⟩:=Sl.get (α:=ba) (A:=bG) (c:=bD) bQ ax;have CJ:=hr3;obtain ⟨jM,jO,sN,jE,jF,sO,JG,JH,zM,qY,Gt,Gw,xg,qA⟩:=iy CJ;subst JG;obtain ⟨q0,q1,q2,q3,q4,q5⟩:=oW 6 dm;clear dm CJ JH;obtain ⟨b',o',ck4,Fk4,e,anJ,sZ,hr4,afh,fi⟩:=Sl.get (α:=ba) (c:=bD) bQ (show j < x.aa.length by omega);have P9:=hr4;obtain ⟨vS,vT,Bc,Jj,Jk,Xk,aal,aam,IZ,wL,JY,JZ,OV,KE⟩:=iy P9;subst aal;obtain ⟨rfl,rfl⟩:b' = b∧o' = o:=by simpa using e.symm
            clear e;obtain ⟨p0,p1,p2,p3,p4,p5⟩:=oW 6 fi;clear fi P9 aam;have b9:Below w.heap.size w wr:=ah mB aR;have jZ:=(ay aR).1;replace c0:=(jZ _ _ cV).trans c0;replace c1:=(jZ _ _ cV).trans c1;replace c2:=(jZ _ _ cV).trans c2;replace c3:=(jZ _ _ cV).trans c3;replace c4:=(jZ _ _ cV).trans c4;replace c5:=(jZ _ _ cV).trans c5;clear jZ;replace q0:=r' b9 q0 jd;replace q1:=r' b9 q1 jd;replace q2:=r' b9 q2 jd;replace q3:=r' b9 q3 jd;replace q4:=r' b9 q4 jd;replace q5:=r' b9 q5 jd;replace p0:=r' b9 p0 sZ;replace p1:=r' b9 p1 sZ;replace p2:=r' b9 p2 sZ;replace p3:=r' b9 p3 sZ;replace p4:=r' b9 p4 sZ;replace p5:=r' b9 p5 sZ;have WU:b' < wr.heap.size:=(by have:=b9.size;omega);have tX:w.heap.size < wr.heap.size:=(by have:=aR.size;omega);have e':=Ka.out (j+1) ax;have AJ:IntKind.i64.wrap (j:Int) = j:=IntWalk.i64_in _ J;have mW:j < x.aa.length:=J;clear p1 p2 p3 p4 p5 wL KE JY JZ OV;obtain ⟨a,b2,L,AS,hus,hfo,hL0,hL1⟩:=E8 x x.aa[j+1];have HU:=I hus;clear hus;have AZ:L≤12:=J;cases h1:Aj x.aa[j+1] with
            | false =>have H1:=I h1;obtain ⟨u3,h3⟩:∃u,dQ x.aa[j] x.aa[j+1] = u:=⟨_,rfl⟩;as_aux_lemma =>have hp:=nM (ok:=dY x) (less:=dQ) ax (show dY x x.aa[j+1] = false by unfold dY;rw [h1];rfl) (show dQ x.aa[j] x.aa[j+1] = u3 from h3);exact Eg
            | true =>
              have H1:=I h1;cases h3:Op.bytesLess x.aa[j].name.toList x.aa[j+1].name.toList with
              | false =>obtain ⟨v,hv⟩:∃v,dY x x.aa[j+1] = v:=⟨_,rfl⟩;as_aux_lemma =>have hp:=nM (ok:=dY x) (less:=dQ) ax (show dY x x.aa[j+1] = v by exact hv) (show dQ x.aa[j] x.aa[j+1] = false from h3);exact Eg
              | true =>
                cases AS with
                | false =>
                  as_aux_lemma =>
                   have hp:=nM (ok:=dY x) (less:=dQ) ax (show dY x x.aa[j+1] = false by unfold dY;rw [hfo];simp) (show dQ x.aa[j] x.aa[j+1] = true from h3);exact sP
                | true =>
                  by_cases ha:a≤x.aa[j+1].az
                  ·have Ms:decide (x.aa[j+1].az < a) = false:=decide_eq_false J;by_cases X:b2≤x.aa[j+1].mem
                   ·have Mt:decide (x.aa[j+1].mem < b2) = false:=decide_eq_false J;by_cases hl:L≤x.aa[j+1].av
                    ·have gj:decide (x.aa[j+1].av < L) = false:=decide_eq_false J;as_aux_lemma =>
                      have hp:=nM (ok:=dY x) (less:=dQ) ax (show dY x x.aa[j+1] = true by unfold dY;rw [h1,hfo];simp [ha,X,hl]) (show dQ x.aa[j] x.aa[j+1] = true from h3);try simp only [Bool.and_false,Bool.and_true,Bool.false_and,Bool.and_self] at hp
                      have HN:=I (gq hall.out hp);clear hp;go_wp2_with fail
                      refine aF _ U' U' (aj _) ?_
                      repeat ((first | refine aG O ?_ | refine aH _ O Ch ?_);simp only [Act.put,pz])
                      refine aN ?_;intro wn Z;replace Z:=Z.out;obtain ⟨lP,mL⟩:=ay Z;have kA:w.heap.size < wn.heap.size:=sq Z.size;have se:b' < wn.heap.size:=sq Z.size;try (have sJ:wr.heap.size < wn.heap.size:=sq Z.size)
                      go_wp2_with (go_at_call 52;refine (jm x _ _ x.aa[j+1].name _ (aJ h bJ) Ji.out).mono ?_;rw [HU.out];rintro e w5 ⟨rfl,bv⟩;obtain ⟨sM,pF⟩:=ay bv;have Es:w.heap.size < w5.heap.size:=(sq bv.size);have IV:b' < w5.heap.size:=(sq bv.size);(try have Ad:wr.heap.size < w5.heap.size:=(sq bv.size)))
                      exact ⟨⟨j+1+1,J,N',HN.out,bJ⟩,by simp [intOf];omega⟩
                    ·have gj:decide (x.aa[j+1].av < L) = true:=decide_eq_true J;as_aux_lemma =>have hp:=nM (ok:=dY x) (less:=dQ) ax (show dY x x.aa[j+1] = false by unfold dY;rw [h1,hfo];simp [ha,X,hl]) (show dQ x.aa[j] x.aa[j+1] = true from h3);exact sP
                   ·have Mt:decide (x.aa[j+1].mem < b2) = true:=decide_eq_true J;as_aux_lemma =>have hp:=nM (ok:=dY x) (less:=dQ) ax (show dY x x.aa[j+1] = false by unfold dY;rw [h1,hfo];simp [ha,X]) (show dQ x.aa[j] x.aa[j+1] = true from h3);exact sP
                  ·have Ms:decide (x.aa[j+1].az < a) = true:=decide_eq_true J;as_aux_lemma =>have hp:=nM (ok:=dY x) (less:=dQ) ax (show dY x x.aa[j+1] = false by unfold dY;rw [h1,hfo];simp [ha]) (show dQ x.aa[j] x.aa[j+1] = true from h3);exact sP
          ·have bF:k = x.aa.length:=J;subst bF;have jZ:=(ay aR).1;have ce0:=(jZ _ _ cV).trans c0;have ce1:=(jZ _ _ cV).trans c1;have ce2:=(jZ _ _ cV).trans c2;have ce3:=(jZ _ _ cV).trans c3;have ce4:=(jZ _ _ cV).trans c4;have ce5:=(jZ _ _ cV).trans c5;clear jZ;have HF:=I (OX XR.out hall.out XV.out XW.out);have tX:w.heap.size < wr.heap.size:=(by have:=aR.size;omega);go_wp2;go_ret
           exact ⟨by rw [HF.out];rfl,ah mB aR⟩
  ·have HF:=I (oU (x:=x) VB);exact td
 ·have HF:=I (oU (x:=x) VC);exact td
end Go.Proofs.YtajbbmembionpaaGreat
