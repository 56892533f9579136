/- ClusterOk, of the reference, where a cluster's parts are small. No condition. -/
import Derived.Test.YtajbbmembionpaaGreatHostOk
namespace Go.Proofs.YtajbbmembionpaaGreat
open Go.ChangeShapes Go.WideShapes Go.ChangeAt Go.RowKit
set_option linter.unusedVariables false
set_option linter.unusedSimpArgs false
set_option maxHeartbeats 16000000
set_option maxRecDepth 100000
theorem Dx (x:aU) (cs:List Value) (F:List Nat) (w:World) (h:rd w x cs F) (bR:(x.aa.length:Int)≤1048576) (vk:(x.au.length:Int)≤1048576) (V8:∀y∈x.aa,U6 y) (V':∀y∈x.au,Xl y.aS) :
 Calls Tryz.prog 20 #[.agg cs.toArray] w fun e w'=>e = .returned (.bool (iI x))∧Below w.heap.size w w':=by
 have Wa:=I (fun k (hk:k < x.aa.length)=>V8 x.aa[k] (List.getElem_mem ..));have MU:=I (fun k (hk:k < x.au.length)=>V' x.au[k] (List.getElem_mem ..));clear V8 V';have hr:=h;obtain ⟨bG,bD,fQ,dn,bW,jg,aw,hF,bQ,dM,hnext,aV,aP,aW⟩:=aO hr;subst aw;clear hF hr;obtain ⟨w0,hw0⟩:∃w0,w.alloc (.cells #[.slice bG x.aa.length bD,.slice dn x.au.length bW,.int .i64 x.next,.int .i64 x.weights.pack,.int .i64 x.weights.spread,.int .i64 x.weights.soft] 29) = w0:=⟨_,rfl⟩;have c0:w0.cell? ⟨w.heap.size,0,none⟩ = some (.slice bG x.aa.length bD):=by rw [← hw0,cell_of_row _ _ _ _ _ _ (heap_alloc_new w _)];rfl
 have c1:w0.cell? ⟨w.heap.size,1,none⟩ = some (.slice dn x.au.length bW):=by rw [← hw0,cell_of_row _ _ _ _ _ _ (heap_alloc_new w _)];rfl
 have c2:w0.cell? ⟨w.heap.size,2,none⟩ = some (.int .i64 x.next):=by rw [← hw0,cell_of_row _ _ _ _ _ _ (heap_alloc_new w _)];rfl
 have c3:w0.cell? ⟨w.heap.size,3,none⟩ = some (.int .i64 x.weights.pack):=by rw [← hw0,cell_of_row _ _ _ _ _ _ (heap_alloc_new w _)];rfl
 have c4:w0.cell? ⟨w.heap.size,4,none⟩ = some (.int .i64 x.weights.spread):=by rw [← hw0,cell_of_row _ _ _ _ _ _ (heap_alloc_new w _)];rfl
 have c5:w0.cell? ⟨w.heap.size,5,none⟩ = some (.int .i64 x.weights.soft):=by rw [← hw0,cell_of_row _ _ _ _ _ _ (heap_alloc_new w _)];rfl
 have l6:Below w.heap.size w w0:=by rw [← hw0];exact ak (aj _) _
 have cL:w.heap.size < w0.heap.size:=by rw [← hw0];simp
 have ri:=I hw0;clear hw0;by_cases hh1:(x.aa.length:Int)≤8
 ·by_cases hh2:(x.au.length:Int)≤12
  ·cases fb:(decide ((1:Int)≤x.next)&&decide (x.next≤1000000000)) with
   | false =>have Jf:=I fb;have HF:=I (oU (x:=x) avX);clear fb;exact ux
   | true =>
     have Jf:=I fb;cases iZ:zL x.weights.pack x.weights.spread x.weights.soft with
     | false =>have Du:=I iZ;have HF:=I (oU (x:=x) avY);clear fb iZ;exact ux
     | true =>
       have Du:=I iZ;have HHD:=I (show Em x = true by unfold Em;rw [fb,iZ];simp [hh1,hh2]);have PO:1≤x.next∧x.next≤1000000000:=(by simpa using fb);obtain ⟨PO,IG⟩:=PO;clear fb iZ;go_enter Tryz.func20,Tryz.ntmps20;go_wp2_with fail
       rw [ri.out]
       go_wp2_with (first
        | (go_at_call 48;refine (kH x.next 1 1000000000 _).mono ?_;rw [Jf.out];rintro e w1 ⟨rfl,oI⟩;simp only [← oI];clear oI w1)
        | (go_at_call 49;refine (pW x.weights.pack x.weights.spread x.weights.soft _).mono ?_;rw [Du.out];rintro e w2 ⟨rfl,ap⟩;obtain ⟨bX,cG⟩:=ay ap;have cj:w.heap.size < w2.heap.size:=(sq ap.size)))
       have Ji:=I vk;have NV:=I bR;have abk:x.au.length≤12:=J;go_wp2_with fail
       go_loopw [3] (fun i wr=>∃k:Nat,k≤x.au.length∧i = .int .i64 k∧Hid (∀j,j < k→rowAt (jT x) dw x.au j = true)∧Hid (∀j,j < k→DN x.au j = true)∧Below w0.heap.size w0 wr) (fun i _=>x.au.length - (intOf i).toNat)
       case atStart=>exact ⟨0,Nat.zero_le _,rfl,(fun j hj=>by omega),(fun j hj=>by omega),ap⟩
       case round =>
        obtain ⟨k,hk,rfl,hall,hfresh,ax⟩:=hrel;by_cases aq:k < x.au.length
        ·obtain rfl | ⟨j,rfl⟩:k = 0∨∃j,k = j+1:=by cases k with | zero=>exact .inl rfl | succ j=>exact .inr ⟨j,rfl⟩
         ·obtain ⟨b,o,ck3,Fk3,rfl,aak,jd,hr3,NW,dk⟩:=Sl.get (α:=af) (A:=dn) (c:=bW) dM aq;have CJ:=hr3;obtain ⟨fC,fD,yD,gB,gG,AA,bT,bU,qI,JG,JH,Dv,yE,FY,FZ,Dw,AB,qJ,aeg,Wv⟩:=kE CJ;subst JG;obtain ⟨q0,q1,q2,q3,q4,q5,q6,q7,q8⟩:=x2 9 dk;clear dk CJ JH;simp only [Nat.zero_mul,Nat.add_zero] at q0 q1 q2 q3 q4 q5 q6 q7 q8;obtain ⟨yR,don,U4,Gon,hdc,hdG,kG,_⟩:=hr3;have ku:rd w x.au[0].aS [.string x.au[0].aS.name,.slice fC x.au[0].aS.labels.length fD,.int .i64 x.au[0].aS.av,.int .i64 x.au[0].aS.mem,.int .i64 x.au[0].aS.ar,.slice gB x.au[0].aS.ag.length gG,.slice bT x.au[0].aS.ae.length bU] U4:=by
           exact FN
          clear hdc hdG kG;have b5:Below w.heap.size w wr:=ah l6 ax;have jZ:=(ay ax).1;replace c0:=(jZ _ _ cL).trans c0;replace c1:=(jZ _ _ cL).trans c1;replace c2:=(jZ _ _ cL).trans c2;replace c3:=(jZ _ _ cL).trans c3;replace c4:=(jZ _ _ cL).trans c4;replace c5:=(jZ _ _ cL).trans c5;clear jZ;replace q0:=r' b5 q0 jd;replace q1:=r' b5 q1 jd;replace q2:=r' b5 q2 jd;replace q3:=r' b5 q3 jd;replace q4:=r' b5 q4 jd;replace q5:=r' b5 q5 jd;replace q6:=r' b5 q6 jd;replace q7:=r' b5 q7 jd;replace q8:=r' b5 q8 jd;have WU:b < wr.heap.size:=(by have:=b5.size;omega);have tX:w.heap.size < wr.heap.size:=(by have:=ax.size;omega);have Ue:=dM.Ec x.au[0] (List.getElem_mem ..);have anL:=Ue.1;have anM:=Ue.2;have fo:=MU.out (0) aq;have lM:IntKind.i64.wrap (x.next - 1) = x.next - 1:=IntWalk.i64_in _ J;obtain ⟨wi,hwi⟩:∃wi,(decide ((1:Int)≤x.au[0].seq)&&decide (x.au[0].seq≤x.next - 1)) = wi:=⟨_,rfl⟩;have LQ:=I hwi;cases h1:GU x.au[0].aS with
          | false =>have H1:=I h1;as_aux_lemma =>have hp:=pV (ok:=jT x) (less:=dw) aq (show jT x x.au[0] = false by unfold jT;rw [h1];rfl);have HF:=I (jP aq hp);clear hp;exact yf
          | true =>
            have H1:=I h1;cases wi with
            | false =>
              as_aux_lemma =>
               have hp:=pV (ok:=jT x) (less:=dw) aq (show jT x x.au[0] = false by unfold jT;rw [hwi];simp);have HF:=I (jP aq hp);clear hp;exact yf
            | true =>
              cases ie:(x.au[0].on.toList == []) with
              | true =>have Hg:=I (show True from trivial);have OW:(x.au[0].on.toList != []) = false:=(by unfold bne;rw [ie];rfl);as_aux_lemma =>have hp:=pV (ok:=jT x) (less:=dw) aq (show jT x x.au[0] = true by unfold jT;rw [h1,hwi,ie];rfl);exact Ei
              | false =>
                have OW:(x.au[0].on.toList != []) = true:=(by unfold bne;rw [ie];rfl);rcases yg (iM x.au[0].on) x.aa with hi | ⟨iz,hiz,hi⟩
                ·have Hg:=I hi;as_aux_lemma =>have hp:=pV (ok:=jT x) (less:=dw) aq (show jT x x.au[0] = false by unfold jT;rw [hi,ie];simp);have HF:=I (jP aq hp);clear hp hi;exact yf
                ·have Hg:=I hi;have Wb:decide ((iz:Int) < 0) = false:=decide_eq_false J;have PP:jT x x.au[0] = true:=(by unfold jT;rw [h1,hwi,ie,hi];simp);clear hi;as_aux_lemma =>have hp:=pV (ok:=jT x) (less:=dw) aq (show jT x x.au[0] = true by exact PP);exact Ei
         ·obtain ⟨b,o,ck3,Fk3,rfl,aak,jd,hr3,NW,dk⟩:=Sl.get (α:=af) (A:=dn) (c:=bW) dM aq;have CJ:=hr3;obtain ⟨fC,fD,yD,gB,gG,AA,bT,bU,qI,JG,JH,Dv,yE,FY,FZ,Dw,AB,qJ,aeg,Wv⟩:=kE CJ;subst JG;obtain ⟨q0,q1,q2,q3,q4,q5,q6,q7,q8⟩:=x2 9 dk;clear dk CJ JH;obtain ⟨b',o',ck4,Fk4,e,anJ,sZ,hr4,afh,fh⟩:=Sl.get (α:=af) (c:=bW) dM (show j < x.au.length by omega);have P9:=hr4;obtain ⟨BK,BL,Q9,Ed,Ee,U5,uj,um,JD,aal,aam,YE,Fa,NZ,N7,J4,Hl,yF,alK,adB⟩:=kE P9;subst aal;obtain ⟨rfl,rfl⟩:b' = b∧o' = o:=by simpa using e.symm
          clear e;obtain ⟨p0,p1,p2,p3,p4,p5,p6,p7,p8⟩:=x2 9 fh;clear fh P9 aam;obtain ⟨yR,don,U4,Gon,hdc,hdG,kG,_⟩:=hr3;have ku:rd w x.au[j+1].aS [.string x.au[j+1].aS.name,.slice fC x.au[j+1].aS.labels.length fD,.int .i64 x.au[j+1].aS.av,.int .i64 x.au[j+1].aS.mem,.int .i64 x.au[j+1].aS.ar,.slice gB x.au[j+1].aS.ag.length gG,.slice bT x.au[j+1].aS.ae.length bU] U4:=by
           exact FN
          clear hdc hdG kG;have b5:Below w.heap.size w wr:=ah l6 ax;have jZ:=(ay ax).1;replace c0:=(jZ _ _ cL).trans c0;replace c1:=(jZ _ _ cL).trans c1;replace c2:=(jZ _ _ cL).trans c2;replace c3:=(jZ _ _ cL).trans c3;replace c4:=(jZ _ _ cL).trans c4;replace c5:=(jZ _ _ cL).trans c5;clear jZ;replace q0:=r' b5 q0 jd;replace q1:=r' b5 q1 jd;replace q2:=r' b5 q2 jd;replace q3:=r' b5 q3 jd;replace q4:=r' b5 q4 jd;replace q5:=r' b5 q5 jd;replace q6:=r' b5 q6 jd;replace q7:=r' b5 q7 jd;replace q8:=r' b5 q8 jd;replace p0:=r' b5 p0 sZ;replace p1:=r' b5 p1 sZ;replace p2:=r' b5 p2 sZ;replace p3:=r' b5 p3 sZ;replace p4:=r' b5 p4 sZ;replace p5:=r' b5 p5 sZ;replace p6:=r' b5 p6 sZ;replace p7:=r' b5 p7 sZ;replace p8:=r' b5 p8 sZ;have WU:b' < wr.heap.size:=(by have:=b5.size;omega);have tX:w.heap.size < wr.heap.size:=(by have:=ax.size;omega);have Ue:=dM.Ec x.au[j+1] (List.getElem_mem ..);have anL:=Ue.1;have anM:=Ue.2;have fo:=MU.out (j+1) aq;have lM:IntKind.i64.wrap (x.next - 1) = x.next - 1:=IntWalk.i64_in _ J;have wB:IntKind.i64.wrap (j:Int) = j:=IntWalk.i64_in _ J;have mD:j < x.au.length:=J;clear p1 p2 p3 p4 p5 p6 p7 p8 Fa Hl yF NZ N7 J4 alK adB;obtain ⟨wi,hwi⟩:∃wi,(decide ((1:Int)≤x.au[j+1].seq)&&decide (x.au[j+1].seq≤x.next - 1)) = wi:=⟨_,rfl⟩;have LQ:=I hwi;cases h1:GU x.au[j+1].aS with
          | false =>have H1:=I h1;obtain ⟨u3,h3⟩:∃u,dw x.au[j] x.au[j+1] = u:=⟨_,rfl⟩;as_aux_lemma =>have hp:=nM (ok:=jT x) (less:=dw) aq (show jT x x.au[j+1] = false by unfold jT;rw [h1];rfl) (show dw x.au[j] x.au[j+1] = u3 from h3);exact Il
          | true =>
            have H1:=I h1;cases h3:Op.bytesLess x.au[j].aS.name.toList x.au[j+1].aS.name.toList with
            | false =>
              as_aux_lemma =>
               obtain ⟨v,hv⟩:∃v,jT x x.au[j+1] = v:=⟨_,rfl⟩;have hp:=nM (ok:=jT x) (less:=dw) aq (show jT x x.au[j+1] = v by exact hv) (show dw x.au[j] x.au[j+1] = false from h3);try simp only [Bool.and_false,Bool.and_true,Bool.false_and,Bool.and_self] at hp
               have HF:=I (jP aq hp);clear hp hv;exact x9
            | true =>
              cases wi with
              | false =>
                as_aux_lemma =>
                 have hp:=nM (ok:=jT x) (less:=dw) aq (show jT x x.au[j+1] = false by unfold jT;rw [hwi];simp) (show dw x.au[j] x.au[j+1] = true from h3);exact Il
              | true =>
                cases ie:(x.au[j+1].on.toList == []) with
                | true =>have Hg:=I (show True from trivial);have OW:(x.au[j+1].on.toList != []) = false:=(by unfold bne;rw [ie];rfl);as_aux_lemma =>have hp:=nM (ok:=jT x) (less:=dw) aq (show jT x x.au[j+1] = true by unfold jT;rw [h1,hwi,ie];rfl) (show dw x.au[j] x.au[j+1] = true from h3);exact DX
                | false =>
                  have OW:(x.au[j+1].on.toList != []) = true:=(by unfold bne;rw [ie];rfl);rcases yg (iM x.au[j+1].on) x.aa with hi | ⟨iz,hiz,hi⟩
                  ·have Hg:=I hi;as_aux_lemma =>
                    have hp:=nM (ok:=jT x) (less:=dw) aq (show jT x x.au[j+1] = false by unfold jT;rw [hi,ie];simp) (show dw x.au[j] x.au[j+1] = true from h3);try simp only [Bool.and_false,Bool.and_true,Bool.false_and,Bool.and_self] at hp
                    have HF:=I (jP aq hp);clear hp hi;exact x9
                  ·have Hg:=I hi;have Wb:decide ((iz:Int) < 0) = false:=decide_eq_false J;have PP:jT x x.au[j+1] = true:=(by unfold jT;rw [h1,hwi,ie,hi];simp);clear hi;as_aux_lemma =>have hp:=nM (ok:=jT x) (less:=dw) aq (show jT x x.au[j+1] = true by exact PP) (show dw x.au[j] x.au[j+1] = true from h3);exact DX
        ·have bB:k = x.au.length:=J;subst bB;have aqE:=I hall.out;have HPF:=I hfresh.out;clear hall hfresh;obtain ⟨wp,vd⟩:∃wp,wp = wr:=⟨_,rfl⟩;subst vd;have Wc:=ax;have hzp:w0.heap.size≤wp.heap.size:=ax.size;clear ax aq;have JI:=(ay Wc).1;have cp0:=(JI _ _ cL).trans c0;have cp1:=(JI _ _ cL).trans c1;have cp2:=(JI _ _ cL).trans c2;have cp3:=(JI _ _ cL).trans c3;have cp4:=(JI _ _ cL).trans c4;have cp5:=(JI _ _ cL).trans c5;clear JI;have hz0p:w.heap.size < wp.heap.size:=J;have Ji:=I vk;have NV:=I bR;have abk:x.au.length≤12:=J;go_wp2_with fail
         go_loopw [6] (fun i wr=>∃k:Nat,k≤x.aa.length∧i = .int .i64 k∧Hid (∀j,j < k→rowAt (dY x) dQ x.aa j = true)∧Below w0.heap.size w0 wr) (fun i _=>x.aa.length - (intOf i).toNat)
         case atStart=>exact ⟨0,Nat.zero_le _,rfl,(fun j hj=>by omega),Wc⟩
         case round =>
          obtain ⟨k,hk,rfl,hall,ax⟩:=hrel;by_cases aq:k < x.aa.length
          ·obtain rfl | ⟨j,rfl⟩:k = 0∨∃j,k = j+1:=by cases k with | zero=>exact .inl rfl | succ j=>exact .inr ⟨j,rfl⟩
           ·obtain ⟨b,o,ck3,Fk3,rfl,aak,jd,hr3,NW,dk⟩:=Sl.get (α:=aM) (A:=bG) (c:=bD) bQ aq;have CJ:=hr3;obtain ⟨jM,jO,sN,jE,jF,sO,JG,JH,zM,qY,Gt,Gw,xg,qA⟩:=iy CJ;subst JG;obtain ⟨q0,q1,q2,q3,q4,q5⟩:=nU 6 dk;clear dk CJ JH;simp only [Nat.zero_mul,Nat.add_zero] at q0 q1 q2 q3 q4 q5;have b5:Below w.heap.size w wr:=ah l6 ax;have jZ:=(ay ax).1;replace c0:=(jZ _ _ cL).trans c0;replace c1:=(jZ _ _ cL).trans c1;replace c2:=(jZ _ _ cL).trans c2;replace c3:=(jZ _ _ cL).trans c3;replace c4:=(jZ _ _ cL).trans c4;replace c5:=(jZ _ _ cL).trans c5;clear jZ;replace q0:=r' b5 q0 jd;replace q1:=r' b5 q1 jd;replace q2:=r' b5 q2 jd;replace q3:=r' b5 q3 jd;replace q4:=r' b5 q4 jd;replace q5:=r' b5 q5 jd;have WU:b < wr.heap.size:=(by have:=b5.size;omega);have tX:w.heap.size < wr.heap.size:=(by have:=ax.size;omega);have fo:=Wa.out (0) aq;obtain ⟨a,b2,L,C7,hus,hfo,hL0,qm⟩:=E8 x x.aa[0];have HU:=I hus;clear hus;have AI:L≤12:=J;cases h1:Aj x.aa[0] with
            | false =>
              have H1:=I h1;as_aux_lemma =>
               have hp:=pV (ok:=dY x) (less:=dQ) aq (show dY x x.aa[0] = false by unfold dY;rw [h1];rfl);have HF:=I (dW aq hp);clear hp;go_wp2_with fail
               refine aF _ U' U' (aj _) ?_
               repeat ((first | refine aG O ?_ | refine aH _ O Ex ?_);simp only [Act.put,pz])
               refine aN ?_;intro wn hn;replace hn:=hn.out;obtain ⟨kO,lZ⟩:=ay hn;have km:w.heap.size < wn.heap.size:=sq hn.size;have tm:b < wn.heap.size:=sq hn.size;try (have ua:wr.heap.size < wn.heap.size:=sq hn.size)
               exact dr
            | true =>
              have H1:=I h1;cases C7 with
              | false =>
                as_aux_lemma =>
                 have hp:=pV (ok:=dY x) (less:=dQ) aq (show dY x x.aa[0] = false by unfold dY;rw [hfo];simp);exact ue
              | true =>
                by_cases ha:a≤x.aa[0].av
                ·have PQ:decide (x.aa[0].av < a) = false:=decide_eq_false J;by_cases hb:b2≤x.aa[0].mem
                 ·have PR:decide (x.aa[0].mem < b2) = false:=decide_eq_false J;by_cases hl:L≤x.aa[0].slots
                  ·have gD:decide (x.aa[0].slots < L) = false:=decide_eq_false J;as_aux_lemma =>
                    have hp:=pV (ok:=dY x) (less:=dQ) aq (show dY x x.aa[0] = true by unfold dY;rw [h1,hfo];simp [ha,hb,hl]);have HN:=I (gq hall.out hp);clear hp;go_wp2_with fail
                    refine aF _ U' U' (aj _) ?_
                    repeat ((first | refine aG O ?_ | refine aH _ O Ex ?_);simp only [Act.put,pz])
                    refine aN ?_;intro wn hn;replace hn:=hn.out;obtain ⟨kO,lZ⟩:=ay hn;have km:w.heap.size < wn.heap.size:=sq hn.size;have tm:b < wn.heap.size:=sq hn.size;try (have ua:wr.heap.size < wn.heap.size:=sq hn.size)
                    go_wp2_with (go_at_call 52;refine (jm x _ _ x.aa[0].name _ (aJ h bx) Ji.out).mono ?_;rw [HU.out];rintro e w5 ⟨rfl,br⟩;obtain ⟨qX,pr⟩:=ay br;have Es:w.heap.size < w5.heap.size:=(sq br.size);have IV:b < w5.heap.size:=(sq br.size);(try have vL:wr.heap.size < w5.heap.size:=(sq br.size)))
                    exact ⟨⟨0+1,J,N',HN.out,bx⟩,by simp [intOf];omega⟩
                  ·have gD:decide (x.aa[0].slots < L) = true:=decide_eq_true J;as_aux_lemma =>have hp:=pV (ok:=dY x) (less:=dQ) aq (show dY x x.aa[0] = false by unfold dY;rw [h1,hfo];simp [ha,hb,hl]);exact ue
                 ·have PR:decide (x.aa[0].mem < b2) = true:=decide_eq_true J;as_aux_lemma =>have hp:=pV (ok:=dY x) (less:=dQ) aq (show dY x x.aa[0] = false by unfold dY;rw [h1,hfo];simp [ha,hb]);exact ue
                ·have PQ:decide (x.aa[0].av < a) = true:=decide_eq_true J;as_aux_lemma =>have hp:=pV (ok:=dY x) (less:=dQ) aq (show dY x x.aa[0] = false by unfold dY;rw [h1,hfo];simp [ha]);exact ue
           ·obtain ⟨b,o,ck3,Fk3,rfl,aak,jd,hr3,NW,dk⟩:=Sl.get (α:=aM) (A:=bG) (c:=bD) bQ aq;have CJ:=hr3;obtain ⟨jM,jO,sN,jE,jF,sO,JG,JH,zM,qY,Gt,Gw,xg,qA⟩:=iy CJ;subst JG;obtain ⟨q0,q1,q2,q3,q4,q5⟩:=nU 6 dk;clear dk CJ JH;obtain ⟨b',o',ck4,Fk4,e,anJ,sZ,hr4,afh,fh⟩:=Sl.get (α:=aM) (c:=bD) bQ (show j < x.aa.length by omega);have P9:=hr4;obtain ⟨vS,vT,Bc,Jj,Jk,Xk,aal,aam,IZ,wL,JY,JZ,OV,KE⟩:=iy P9;subst aal;obtain ⟨rfl,rfl⟩:b' = b∧o' = o:=by simpa using e.symm
            clear e;obtain ⟨p0,p1,p2,p3,p4,p5⟩:=nU 6 fh;clear fh P9 aam;have b5:Below w.heap.size w wr:=ah l6 ax;have jZ:=(ay ax).1;replace c0:=(jZ _ _ cL).trans c0;replace c1:=(jZ _ _ cL).trans c1;replace c2:=(jZ _ _ cL).trans c2;replace c3:=(jZ _ _ cL).trans c3;replace c4:=(jZ _ _ cL).trans c4;replace c5:=(jZ _ _ cL).trans c5;clear jZ;replace q0:=r' b5 q0 jd;replace q1:=r' b5 q1 jd;replace q2:=r' b5 q2 jd;replace q3:=r' b5 q3 jd;replace q4:=r' b5 q4 jd;replace q5:=r' b5 q5 jd;replace p0:=r' b5 p0 sZ;replace p1:=r' b5 p1 sZ;replace p2:=r' b5 p2 sZ;replace p3:=r' b5 p3 sZ;replace p4:=r' b5 p4 sZ;replace p5:=r' b5 p5 sZ;have WU:b' < wr.heap.size:=(by have:=b5.size;omega);have tX:w.heap.size < wr.heap.size:=(by have:=ax.size;omega);have fo:=Wa.out (j+1) aq;have wB:IntKind.i64.wrap (j:Int) = j:=IntWalk.i64_in _ J;have mD:j < x.aa.length:=J;clear p1 p2 p3 p4 p5 wL KE JY JZ OV;obtain ⟨a,b2,L,C7,hus,hfo,hL0,qm⟩:=E8 x x.aa[j+1];have HU:=I hus;clear hus;have AI:L≤12:=J;cases h1:Aj x.aa[j+1] with
            | false =>have H1:=I h1;obtain ⟨u3,h3⟩:∃u,dQ x.aa[j] x.aa[j+1] = u:=⟨_,rfl⟩;as_aux_lemma =>have hp:=nM (ok:=dY x) (less:=dQ) aq (show dY x x.aa[j+1] = false by unfold dY;rw [h1];rfl) (show dQ x.aa[j] x.aa[j+1] = u3 from h3);exact Hs
            | true =>
              have H1:=I h1;cases h3:Op.bytesLess x.aa[j].name.toList x.aa[j+1].name.toList with
              | false =>obtain ⟨v,hv⟩:∃v,dY x x.aa[j+1] = v:=⟨_,rfl⟩;as_aux_lemma =>have hp:=nM (ok:=dY x) (less:=dQ) aq (show dY x x.aa[j+1] = v by exact hv) (show dQ x.aa[j] x.aa[j+1] = false from h3);exact Hs
              | true =>
                cases C7 with
                | false =>
                  as_aux_lemma =>
                   have hp:=nM (ok:=dY x) (less:=dQ) aq (show dY x x.aa[j+1] = false by unfold dY;rw [hfo];simp) (show dQ x.aa[j] x.aa[j+1] = true from h3);exact ud
                | true =>
                  by_cases ha:a≤x.aa[j+1].av
                  ·have PQ:decide (x.aa[j+1].av < a) = false:=decide_eq_false J;by_cases hb:b2≤x.aa[j+1].mem
                   ·have PR:decide (x.aa[j+1].mem < b2) = false:=decide_eq_false J;by_cases hl:L≤x.aa[j+1].slots
                    ·have gD:decide (x.aa[j+1].slots < L) = false:=decide_eq_false J;as_aux_lemma =>
                      have hp:=nM (ok:=dY x) (less:=dQ) aq (show dY x x.aa[j+1] = true by unfold dY;rw [h1,hfo];simp [ha,hb,hl]) (show dQ x.aa[j] x.aa[j+1] = true from h3);try simp only [Bool.and_false,Bool.and_true,Bool.false_and,Bool.and_self] at hp
                      have HN:=I (gq hall.out hp);clear hp;go_wp2_with fail
                      refine aF _ U' U' (aj _) ?_
                      repeat ((first | refine aG O ?_ | refine aH _ O El ?_);simp only [Act.put,pz])
                      refine aN ?_;intro wn hn;replace hn:=hn.out;obtain ⟨kO,lZ⟩:=ay hn;have km:w.heap.size < wn.heap.size:=sq hn.size;have tm:b' < wn.heap.size:=sq hn.size;try (have ua:wr.heap.size < wn.heap.size:=sq hn.size)
                      go_wp2_with (go_at_call 52;refine (jm x _ _ x.aa[j+1].name _ (aJ h bx) Ji.out).mono ?_;rw [HU.out];rintro e w5 ⟨rfl,br⟩;obtain ⟨qX,pr⟩:=ay br;have Es:w.heap.size < w5.heap.size:=(sq br.size);have IV:b' < w5.heap.size:=(sq br.size);(try have vL:wr.heap.size < w5.heap.size:=(sq br.size)))
                      exact ⟨⟨j+1+1,J,N',HN.out,bx⟩,by simp [intOf];omega⟩
                    ·have gD:decide (x.aa[j+1].slots < L) = true:=decide_eq_true J;as_aux_lemma =>have hp:=nM (ok:=dY x) (less:=dQ) aq (show dY x x.aa[j+1] = false by unfold dY;rw [h1,hfo];simp [ha,hb,hl]) (show dQ x.aa[j] x.aa[j+1] = true from h3);exact ud
                   ·have PR:decide (x.aa[j+1].mem < b2) = true:=decide_eq_true J;as_aux_lemma =>have hp:=nM (ok:=dY x) (less:=dQ) aq (show dY x x.aa[j+1] = false by unfold dY;rw [h1,hfo];simp [ha,hb]) (show dQ x.aa[j] x.aa[j+1] = true from h3);exact ud
                  ·have PQ:decide (x.aa[j+1].av < a) = true:=decide_eq_true J;as_aux_lemma =>have hp:=nM (ok:=dY x) (less:=dQ) aq (show dY x x.aa[j+1] = false by unfold dY;rw [h1,hfo];simp [ha]) (show dQ x.aa[j] x.aa[j+1] = true from h3);exact ud
          ·have bB:k = x.aa.length:=J;subst bB;have jZ:=(ay ax).1;have ce0:=(jZ _ _ cL).trans c0;have ce1:=(jZ _ _ cL).trans c1;have ce2:=(jZ _ _ cL).trans c2;have ce3:=(jZ _ _ cL).trans c3;have ce4:=(jZ _ _ cL).trans c4;have ce5:=(jZ _ _ cL).trans c5;clear jZ;have HF:=I (OX HHD.out hall.out aqE.out HPF.out);have tX:w.heap.size < wr.heap.size:=(by have:=ax.size;omega);go_wp2;go_ret
           exact ⟨by rw [HF.out];rfl,ah l6 ax⟩
  ·have HF:=I (oU (x:=x) avZ);exact ux
 ·have HF:=I (oU (x:=x) av1);exact ux
end Go.Proofs.YtajbbmembionpaaGreat
