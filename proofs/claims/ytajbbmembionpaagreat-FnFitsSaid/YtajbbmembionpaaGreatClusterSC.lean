/- ClusterOk, of the reference, where a cluster's parts are small. No condition. -/
import Derived.Test.YtajbbmembionpaaGreatSelOk
namespace Go.Proofs.YtajbbmembionpaaGreat
open Go.ChangeShapes Go.WideShapes Go.ChangeAt Go.RowKit
set_option linter.unusedVariables false
set_option linter.unusedSimpArgs false
set_option maxHeartbeats 16000000
set_option maxRecDepth 100000
theorem Dx (x:aU) (cs:List Value) (F:List Nat) (w:World) (h:rd w x cs F) (cI:(x.V.length:Int)≤1048576) (vk:(x.O.length:Int)≤1048576) (Bm:∀y∈x.V,U6 y) (Tc:∀y∈x.O,Xl y.aS) :
 Calls Tryz.prog 20 #[.agg cs.toArray] w fun e w'=>e = .returned (.bool (iI x))∧Below w.heap.size w w':=by
 have Te:=I (fun k (hk:k < x.V.length)=>Bm x.V[k] (List.getElem_mem ..));have Lh:=I (fun k (hk:k < x.O.length)=>Tc x.O[k] (List.getElem_mem ..));clear Bm Tc;have hr:=h;obtain ⟨bG,bD,fQ,dn,bW,jg,aD,hF,bQ,dM,hnext,aV,aP,aW⟩:=aO hr;subst aD;clear hF hr;obtain ⟨w0,hw0⟩:∃w0,w.alloc (.cells #[.slice bG x.V.length bD,.slice dn x.O.length bW,.int .i64 x.next,.int .i64 x.weights.pack,.int .i64 x.weights.af,.int .i64 x.weights.an] 29) = w0:=⟨_,rfl⟩;have c0:w0.cell? ⟨w.heap.size,0,none⟩ = some (.slice bG x.V.length bD):=by rw [← hw0,cell_of_row _ _ _ _ _ _ (heap_alloc_new w _)];rfl
 have c1:w0.cell? ⟨w.heap.size,1,none⟩ = some (.slice dn x.O.length bW):=by rw [← hw0,cell_of_row _ _ _ _ _ _ (heap_alloc_new w _)];rfl
 have c2:w0.cell? ⟨w.heap.size,2,none⟩ = some (.int .i64 x.next):=by rw [← hw0,cell_of_row _ _ _ _ _ _ (heap_alloc_new w _)];rfl
 have c3:w0.cell? ⟨w.heap.size,3,none⟩ = some (.int .i64 x.weights.pack):=by rw [← hw0,cell_of_row _ _ _ _ _ _ (heap_alloc_new w _)];rfl
 have c4:w0.cell? ⟨w.heap.size,4,none⟩ = some (.int .i64 x.weights.af):=by rw [← hw0,cell_of_row _ _ _ _ _ _ (heap_alloc_new w _)];rfl
 have c5:w0.cell? ⟨w.heap.size,5,none⟩ = some (.int .i64 x.weights.an):=by rw [← hw0,cell_of_row _ _ _ _ _ _ (heap_alloc_new w _)];rfl
 have im:Below w.heap.size w w0:=by rw [← hw0];exact ak (aj _) _
 have cJ:w.heap.size < w0.heap.size:=by rw [← hw0];simp
 have oC:=I hw0;clear hw0;by_cases hh1:(x.V.length:Int)≤8
 ·by_cases hh2:(x.O.length:Int)≤12
  ·cases fq:(decide ((1:Int)≤x.next)&&decide (x.next≤1000000000)) with
   | false =>have Jf:=I fq;have HF:=I (oU (x:=x) Yi);clear fq;exact sE
   | true =>
     have Jf:=I fq;cases ik:zL x.weights.pack x.weights.af x.weights.an with
     | false =>have Du:=I ik;have HF:=I (oU (x:=x) Yj);clear fq ik;exact sE
     | true =>
       have Du:=I ik;have HHD:=I (show Em x = true by unfold Em;rw [fq,ik];simp [hh1,hh2]);have NM:1≤x.next∧x.next≤1000000000:=(by simpa using fq);obtain ⟨NM,Fs⟩:=NM;clear fq ik;go_enter Tryz.func20,Tryz.ntmps20;go_wp2_with fail
       rw [oC.out]
       go_wp2_with (first
        | (go_at_call 48;refine (kH x.next 1 1000000000 _).mono ?_;rw [Jf.out];rintro e w1 ⟨rfl,oD⟩;simp only [← oD];clear oD w1)
        | (go_at_call 49;refine (pW x.weights.pack x.weights.af x.weights.an _).mono ?_;rw [Du.out];rintro e w2 ⟨rfl,aq⟩;obtain ⟨cj,cN⟩:=ay aq;have cC:w.heap.size < w2.heap.size:=(sq aq.size)))
       have Ji:=I vk;have NV:=I cI;have abk:x.O.length≤12:=J;go_wp2_with fail
       go_loopw [3] (fun i wr=>∃k:Nat,k≤x.O.length∧i = .int .i64 k∧Hid (∀j,j < k→bO (jT x) dw x.O j = true)∧Hid (∀j,j < k→DN x.O j = true)∧Below w0.heap.size w0 wr) (fun i _=>x.O.length - (intOf i).toNat)
       case atStart=>exact ⟨0,Nat.zero_le _,rfl,(fun j hj=>by omega),(fun j hj=>by omega),aq⟩
       case round =>
        obtain ⟨k,hk,rfl,hall,hfresh,aK⟩:=hrel;by_cases av:k < x.O.length
        ·obtain rfl | ⟨j,rfl⟩:k = 0∨∃j,k = j+1:=by cases k with | zero=>exact .inl rfl | succ j=>exact .inr ⟨j,rfl⟩
         ·obtain ⟨b,o,ck3,Fk3,rfl,aak,jd,hr3,NW,dx⟩:=Sl.get (α:=ag) (A:=dn) (c:=bW) dM av;have CJ:=hr3;obtain ⟨fC,fD,yD,gB,gG,AA,bT,bU,qI,JG,JH,Dv,yE,FY,FZ,Dw,AB,qJ,aeg,Wv⟩:=kE CJ;subst JG;obtain ⟨q0,q1,q2,q3,q4,q5,q6,q7,q8⟩:=vN 9 dx;clear dx CJ JH;simp only [Nat.zero_mul,Nat.add_zero] at q0 q1 q2 q3 q4 q5 q6 q7 q8;obtain ⟨yR,don,U4,Gon,hdc,hdG,kG,_⟩:=hr3;have ku:rd w x.O[0].aS [.string x.O[0].aS.name,.slice fC x.O[0].aS.labels.length fD,.int .i64 x.O[0].aS.az,.int .i64 x.O[0].aS.mem,.int .i64 x.O[0].aS.aw,.slice gB x.O[0].aS.ai.length gG,.slice bT x.O[0].aS.ae.length bU] U4:=by
           exact DO
          clear hdc hdG kG;have b4:Below w.heap.size w wr:=ah im aK;have jZ:=(ay aK).1;replace c0:=(jZ _ _ cJ).trans c0;replace c1:=(jZ _ _ cJ).trans c1;replace c2:=(jZ _ _ cJ).trans c2;replace c3:=(jZ _ _ cJ).trans c3;replace c4:=(jZ _ _ cJ).trans c4;replace c5:=(jZ _ _ cJ).trans c5;clear jZ;replace q0:=r' b4 q0 jd;replace q1:=r' b4 q1 jd;replace q2:=r' b4 q2 jd;replace q3:=r' b4 q3 jd;replace q4:=r' b4 q4 jd;replace q5:=r' b4 q5 jd;replace q6:=r' b4 q6 jd;replace q7:=r' b4 q7 jd;replace q8:=r' b4 q8 jd;have WU:b < wr.heap.size:=(by have:=b4.size;omega);have tX:w.heap.size < wr.heap.size:=(by have:=aK.size;omega);have Ue:=dM.Ec x.O[0] (List.getElem_mem ..);have anL:=Ue.1;have anM:=Ue.2;have ft:=Lh.out (0) av;have kR:IntKind.i64.wrap (x.next - 1) = x.next - 1:=IntWalk.i64_in _ J;obtain ⟨wi,hwi⟩:∃wi,(decide ((1:Int)≤x.O[0].seq)&&decide (x.O[0].seq≤x.next - 1)) = wi:=⟨_,rfl⟩;have LQ:=I hwi;cases Z:GU x.O[0].aS with
          | false =>have H1:=I Z;as_aux_lemma =>have hp:=pV (ok:=jT x) (less:=dw) av (show jT x x.O[0] = false by unfold jT;rw [Z];rfl);have HF:=I (jP av hp);clear hp;exact wC
          | true =>
            have H1:=I Z;cases wi with
            | false =>
              as_aux_lemma =>
               have hp:=pV (ok:=jT x) (less:=dw) av (show jT x x.O[0] = false by unfold jT;rw [hwi];simp);have HF:=I (jP av hp);clear hp;exact wC
            | true =>
              cases gO:(x.O[0].on.toList == []) with
              | true =>have Hg:=I (show True from trivial);have OW:(x.O[0].on.toList != []) = false:=(by unfold bne;rw [gO];rfl);as_aux_lemma =>have hp:=pV (ok:=jT x) (less:=dw) av (show jT x x.O[0] = true by unfold jT;rw [Z,hwi,gO];rfl);exact Cv
              | false =>
                have OW:(x.O[0].on.toList != []) = true:=(by unfold bne;rw [gO];rfl);rcases yg (iM x.O[0].on) x.V with hi | ⟨iz,hiz,hi⟩
                ·have Hg:=I hi;as_aux_lemma =>have hp:=pV (ok:=jT x) (less:=dw) av (show jT x x.O[0] = false by unfold jT;rw [hi,gO];simp);have HF:=I (jP av hp);clear hp hi;exact wC
                ·have Hg:=I hi;have Tf:decide ((iz:Int) < 0) = false:=decide_eq_false J;have Li:jT x x.O[0] = true:=(by unfold jT;rw [Z,hwi,gO,hi];simp);clear hi;as_aux_lemma =>have hp:=pV (ok:=jT x) (less:=dw) av (show jT x x.O[0] = true by exact Li);exact Cv
         ·obtain ⟨b,o,ck3,Fk3,rfl,aak,jd,hr3,NW,dx⟩:=Sl.get (α:=ag) (A:=dn) (c:=bW) dM av;have CJ:=hr3;obtain ⟨fC,fD,yD,gB,gG,AA,bT,bU,qI,JG,JH,Dv,yE,FY,FZ,Dw,AB,qJ,aeg,Wv⟩:=kE CJ;subst JG;obtain ⟨q0,q1,q2,q3,q4,q5,q6,q7,q8⟩:=vN 9 dx;clear dx CJ JH;obtain ⟨b',o',ck4,Fk4,e,anJ,sZ,hr4,afh,fa⟩:=Sl.get (α:=ag) (c:=bW) dM (show j < x.O.length by omega);have P9:=hr4;obtain ⟨BK,BL,Q9,Ed,Ee,U5,uj,um,JD,aal,aam,YE,Fa,NZ,N7,J4,Hl,yF,alK,adB⟩:=kE P9;subst aal;obtain ⟨rfl,rfl⟩:b' = b∧o' = o:=by simpa using e.symm
          clear e;obtain ⟨p0,p1,p2,p3,p4,p5,p6,p7,p8⟩:=vN 9 fa;clear fa P9 aam;obtain ⟨yR,don,U4,Gon,hdc,hdG,kG,_⟩:=hr3;have ku:rd w x.O[j+1].aS [.string x.O[j+1].aS.name,.slice fC x.O[j+1].aS.labels.length fD,.int .i64 x.O[j+1].aS.az,.int .i64 x.O[j+1].aS.mem,.int .i64 x.O[j+1].aS.aw,.slice gB x.O[j+1].aS.ai.length gG,.slice bT x.O[j+1].aS.ae.length bU] U4:=by
           exact DO
          clear hdc hdG kG;have b4:Below w.heap.size w wr:=ah im aK;have jZ:=(ay aK).1;replace c0:=(jZ _ _ cJ).trans c0;replace c1:=(jZ _ _ cJ).trans c1;replace c2:=(jZ _ _ cJ).trans c2;replace c3:=(jZ _ _ cJ).trans c3;replace c4:=(jZ _ _ cJ).trans c4;replace c5:=(jZ _ _ cJ).trans c5;clear jZ;replace q0:=r' b4 q0 jd;replace q1:=r' b4 q1 jd;replace q2:=r' b4 q2 jd;replace q3:=r' b4 q3 jd;replace q4:=r' b4 q4 jd;replace q5:=r' b4 q5 jd;replace q6:=r' b4 q6 jd;replace q7:=r' b4 q7 jd;replace q8:=r' b4 q8 jd;replace p0:=r' b4 p0 sZ;replace p1:=r' b4 p1 sZ;replace p2:=r' b4 p2 sZ;replace p3:=r' b4 p3 sZ;replace p4:=r' b4 p4 sZ;replace p5:=r' b4 p5 sZ;replace p6:=r' b4 p6 sZ;replace p7:=r' b4 p7 sZ;replace p8:=r' b4 p8 sZ;have WU:b' < wr.heap.size:=(by have:=b4.size;omega);have tX:w.heap.size < wr.heap.size:=(by have:=aK.size;omega);have Ue:=dM.Ec x.O[j+1] (List.getElem_mem ..);have anL:=Ue.1;have anM:=Ue.2;have ft:=Lh.out (j+1) av;have kR:IntKind.i64.wrap (x.next - 1) = x.next - 1:=IntWalk.i64_in _ J;have yk:IntKind.i64.wrap (j:Int) = j:=IntWalk.i64_in _ J;have mr:j < x.O.length:=J;clear p1 p2 p3 p4 p5 p6 p7 p8 Fa Hl yF NZ N7 J4 alK adB;obtain ⟨wi,hwi⟩:∃wi,(decide ((1:Int)≤x.O[j+1].seq)&&decide (x.O[j+1].seq≤x.next - 1)) = wi:=⟨_,rfl⟩;have LQ:=I hwi;cases Z:GU x.O[j+1].aS with
          | false =>have H1:=I Z;obtain ⟨u3,h3⟩:∃u,dw x.O[j] x.O[j+1] = u:=⟨_,rfl⟩;as_aux_lemma =>have hp:=nM (ok:=jT x) (less:=dw) av (show jT x x.O[j+1] = false by unfold jT;rw [Z];rfl) (show dw x.O[j] x.O[j+1] = u3 from h3);exact EU
          | true =>
            have H1:=I Z;cases h3:Op.bytesLess x.O[j].aS.name.toList x.O[j+1].aS.name.toList with
            | false =>
              as_aux_lemma =>
               obtain ⟨v,hv⟩:∃v,jT x x.O[j+1] = v:=⟨_,rfl⟩;have hp:=nM (ok:=jT x) (less:=dw) av (show jT x x.O[j+1] = v by exact hv) (show dw x.O[j] x.O[j+1] = false from h3);try simp only [Bool.and_false,Bool.and_true,Bool.false_and,Bool.and_self] at hp
               have HF:=I (jP av hp);clear hp hv;exact wg
            | true =>
              cases wi with
              | false =>
                as_aux_lemma =>
                 have hp:=nM (ok:=jT x) (less:=dw) av (show jT x x.O[j+1] = false by unfold jT;rw [hwi];simp) (show dw x.O[j] x.O[j+1] = true from h3);exact EU
              | true =>
                cases gO:(x.O[j+1].on.toList == []) with
                | true =>have Hg:=I (show True from trivial);have OW:(x.O[j+1].on.toList != []) = false:=(by unfold bne;rw [gO];rfl);as_aux_lemma =>have hp:=nM (ok:=jT x) (less:=dw) av (show jT x x.O[j+1] = true by unfold jT;rw [Z,hwi,gO];rfl) (show dw x.O[j] x.O[j+1] = true from h3);exact B9
                | false =>
                  have OW:(x.O[j+1].on.toList != []) = true:=(by unfold bne;rw [gO];rfl);rcases yg (iM x.O[j+1].on) x.V with hi | ⟨iz,hiz,hi⟩
                  ·have Hg:=I hi;as_aux_lemma =>
                    have hp:=nM (ok:=jT x) (less:=dw) av (show jT x x.O[j+1] = false by unfold jT;rw [hi,gO];simp) (show dw x.O[j] x.O[j+1] = true from h3);try simp only [Bool.and_false,Bool.and_true,Bool.false_and,Bool.and_self] at hp
                    have HF:=I (jP av hp);clear hp hi;exact wg
                  ·have Hg:=I hi;have Tf:decide ((iz:Int) < 0) = false:=decide_eq_false J;have Li:jT x x.O[j+1] = true:=(by unfold jT;rw [Z,hwi,gO,hi];simp);clear hi;as_aux_lemma =>have hp:=nM (ok:=jT x) (less:=dw) av (show jT x x.O[j+1] = true by exact Li) (show dw x.O[j] x.O[j+1] = true from h3);exact B9
        ·have bI:k = x.O.length:=J;subst bI;have aqE:=I hall.out;have HPF:=I hfresh.out;clear hall hfresh;obtain ⟨wp,uM⟩:∃wp,wp = wr:=⟨_,rfl⟩;subst uM;have Tg:=aK;have hzp:w0.heap.size≤wp.heap.size:=aK.size;clear aK av;have JI:=(ay Tg).1;have cp0:=(JI _ _ cJ).trans c0;have cp1:=(JI _ _ cJ).trans c1;have cp2:=(JI _ _ cJ).trans c2;have cp3:=(JI _ _ cJ).trans c3;have cp4:=(JI _ _ cJ).trans c4;have cp5:=(JI _ _ cJ).trans c5;clear JI;have hz0p:w.heap.size < wp.heap.size:=J;have Ji:=I vk;have NV:=I cI;have abk:x.O.length≤12:=J;go_wp2_with fail
         go_loopw [6] (fun i wr=>∃k:Nat,k≤x.V.length∧i = .int .i64 k∧Hid (∀j,j < k→bO (dY x) dQ x.V j = true)∧Below w0.heap.size w0 wr) (fun i _=>x.V.length - (intOf i).toNat)
         case atStart=>exact ⟨0,Nat.zero_le _,rfl,(fun j hj=>by omega),Tg⟩
         case round =>
          obtain ⟨k,hk,rfl,hall,aK⟩:=hrel;by_cases av:k < x.V.length
          ·obtain rfl | ⟨j,rfl⟩:k = 0∨∃j,k = j+1:=by cases k with | zero=>exact .inl rfl | succ j=>exact .inr ⟨j,rfl⟩
           ·obtain ⟨b,o,ck3,Fk3,rfl,aak,jd,hr3,NW,dx⟩:=Sl.get (α:=aR) (A:=bG) (c:=bD) bQ av;have CJ:=hr3;obtain ⟨jM,jO,sN,jE,jF,sO,JG,JH,zM,qY,Gt,Gw,xg,qA⟩:=iy CJ;subst JG;obtain ⟨q0,q1,q2,q3,q4,q5⟩:=oI 6 dx;clear dx CJ JH;simp only [Nat.zero_mul,Nat.add_zero] at q0 q1 q2 q3 q4 q5;have b4:Below w.heap.size w wr:=ah im aK;have jZ:=(ay aK).1;replace c0:=(jZ _ _ cJ).trans c0;replace c1:=(jZ _ _ cJ).trans c1;replace c2:=(jZ _ _ cJ).trans c2;replace c3:=(jZ _ _ cJ).trans c3;replace c4:=(jZ _ _ cJ).trans c4;replace c5:=(jZ _ _ cJ).trans c5;clear jZ;replace q0:=r' b4 q0 jd;replace q1:=r' b4 q1 jd;replace q2:=r' b4 q2 jd;replace q3:=r' b4 q3 jd;replace q4:=r' b4 q4 jd;replace q5:=r' b4 q5 jd;have WU:b < wr.heap.size:=(by have:=b4.size;omega);have tX:w.heap.size < wr.heap.size:=(by have:=aK.size;omega);have ft:=Te.out (0) av;obtain ⟨a,b2,L,Bl,hus,hfo,hL0,hL1⟩:=E8 x x.V[0];have HU:=I hus;clear hus;have F0:L≤12:=J;cases Z:Aj x.V[0] with
            | false =>
              have H1:=I Z;as_aux_lemma =>
               have hp:=pV (ok:=dY x) (less:=dQ) av (show dY x x.V[0] = false by unfold dY;rw [Z];rfl);have HF:=I (dW av hp);clear hp;go_wp2_with fail
               refine aF _ U' U' (aj _) ?_
               repeat ((first | refine aG M ?_ | refine aH _ M CH ?_);simp only [Act.put,pz])
               refine aN ?_;intro wn X;replace X:=X.out;obtain ⟨jI,ky⟩:=ay X;have i7:w.heap.size < wn.heap.size:=sq X.size;have rI:b < wn.heap.size:=sq X.size;try (have so:wr.heap.size < wn.heap.size:=sq X.size)
               exact ej
            | true =>
              have H1:=I Z;cases Bl with
              | false =>
                as_aux_lemma =>
                 have hp:=pV (ok:=dY x) (less:=dQ) av (show dY x x.V[0] = false by unfold dY;rw [hfo];simp);exact sv
              | true =>
                by_cases ha:a≤x.V[0].az
                ·have NN:decide (x.V[0].az < a) = false:=decide_eq_false J;by_cases U:b2≤x.V[0].mem
                 ·have NO:decide (x.V[0].mem < b2) = false:=decide_eq_false J;by_cases hl:L≤x.V[0].ax
                  ·have gg:decide (x.V[0].ax < L) = false:=decide_eq_false J;as_aux_lemma =>
                    have hp:=pV (ok:=dY x) (less:=dQ) av (show dY x x.V[0] = true by unfold dY;rw [Z,hfo];simp [ha,U,hl]);have HN:=I (gq hall.out hp);clear hp;go_wp2_with fail
                    refine aF _ U' U' (aj _) ?_
                    repeat ((first | refine aG M ?_ | refine aH _ M CH ?_);simp only [Act.put,pz])
                    refine aN ?_;intro wn X;replace X:=X.out;obtain ⟨jI,ky⟩:=ay X;have i7:w.heap.size < wn.heap.size:=sq X.size;have rI:b < wn.heap.size:=sq X.size;try (have so:wr.heap.size < wn.heap.size:=sq X.size)
                    go_wp2_with (go_at_call 52;refine (jm x _ _ x.V[0].name _ (aJ h bL) Ji.out).mono ?_;rw [HU.out];rintro e w5 ⟨rfl,bs⟩;obtain ⟨py,ox⟩:=ay bs;have Es:w.heap.size < w5.heap.size:=(sq bs.size);have IV:b < w5.heap.size:=(sq bs.size);(try have ud:wr.heap.size < w5.heap.size:=(sq bs.size)))
                    exact ⟨⟨0+1,J,N',HN.out,bL⟩,by simp [intOf];omega⟩
                  ·have gg:decide (x.V[0].ax < L) = true:=decide_eq_true J;as_aux_lemma =>have hp:=pV (ok:=dY x) (less:=dQ) av (show dY x x.V[0] = false by unfold dY;rw [Z,hfo];simp [ha,U,hl]);exact sv
                 ·have NO:decide (x.V[0].mem < b2) = true:=decide_eq_true J;as_aux_lemma =>have hp:=pV (ok:=dY x) (less:=dQ) av (show dY x x.V[0] = false by unfold dY;rw [Z,hfo];simp [ha,U]);exact sv
                ·have NN:decide (x.V[0].az < a) = true:=decide_eq_true J;as_aux_lemma =>have hp:=pV (ok:=dY x) (less:=dQ) av (show dY x x.V[0] = false by unfold dY;rw [Z,hfo];simp [ha]);exact sv
           ·obtain ⟨b,o,ck3,Fk3,rfl,aak,jd,hr3,NW,dx⟩:=Sl.get (α:=aR) (A:=bG) (c:=bD) bQ av;have CJ:=hr3;obtain ⟨jM,jO,sN,jE,jF,sO,JG,JH,zM,qY,Gt,Gw,xg,qA⟩:=iy CJ;subst JG;obtain ⟨q0,q1,q2,q3,q4,q5⟩:=oI 6 dx;clear dx CJ JH;obtain ⟨b',o',ck4,Fk4,e,anJ,sZ,hr4,afh,fa⟩:=Sl.get (α:=aR) (c:=bD) bQ (show j < x.V.length by omega);have P9:=hr4;obtain ⟨vS,vT,Bc,Jj,Jk,Xk,aal,aam,IZ,wL,JY,JZ,OV,KE⟩:=iy P9;subst aal;obtain ⟨rfl,rfl⟩:b' = b∧o' = o:=by simpa using e.symm
            clear e;obtain ⟨p0,p1,p2,p3,p4,p5⟩:=oI 6 fa;clear fa P9 aam;have b4:Below w.heap.size w wr:=ah im aK;have jZ:=(ay aK).1;replace c0:=(jZ _ _ cJ).trans c0;replace c1:=(jZ _ _ cJ).trans c1;replace c2:=(jZ _ _ cJ).trans c2;replace c3:=(jZ _ _ cJ).trans c3;replace c4:=(jZ _ _ cJ).trans c4;replace c5:=(jZ _ _ cJ).trans c5;clear jZ;replace q0:=r' b4 q0 jd;replace q1:=r' b4 q1 jd;replace q2:=r' b4 q2 jd;replace q3:=r' b4 q3 jd;replace q4:=r' b4 q4 jd;replace q5:=r' b4 q5 jd;replace p0:=r' b4 p0 sZ;replace p1:=r' b4 p1 sZ;replace p2:=r' b4 p2 sZ;replace p3:=r' b4 p3 sZ;replace p4:=r' b4 p4 sZ;replace p5:=r' b4 p5 sZ;have WU:b' < wr.heap.size:=(by have:=b4.size;omega);have tX:w.heap.size < wr.heap.size:=(by have:=aK.size;omega);have ft:=Te.out (j+1) av;have yk:IntKind.i64.wrap (j:Int) = j:=IntWalk.i64_in _ J;have mr:j < x.V.length:=J;clear p1 p2 p3 p4 p5 wL KE JY JZ OV;obtain ⟨a,b2,L,Bl,hus,hfo,hL0,hL1⟩:=E8 x x.V[j+1];have HU:=I hus;clear hus;have F0:L≤12:=J;cases Z:Aj x.V[j+1] with
            | false =>have H1:=I Z;obtain ⟨u3,h3⟩:∃u,dQ x.V[j] x.V[j+1] = u:=⟨_,rfl⟩;as_aux_lemma =>have hp:=nM (ok:=dY x) (less:=dQ) av (show dY x x.V[j+1] = false by unfold dY;rw [Z];rfl) (show dQ x.V[j] x.V[j+1] = u3 from h3);exact EH
            | true =>
              have H1:=I Z;cases h3:Op.bytesLess x.V[j].name.toList x.V[j+1].name.toList with
              | false =>obtain ⟨v,hv⟩:∃v,dY x x.V[j+1] = v:=⟨_,rfl⟩;as_aux_lemma =>have hp:=nM (ok:=dY x) (less:=dQ) av (show dY x x.V[j+1] = v by exact hv) (show dQ x.V[j] x.V[j+1] = false from h3);exact EH
              | true =>
                cases Bl with
                | false =>
                  as_aux_lemma =>
                   have hp:=nM (ok:=dY x) (less:=dQ) av (show dY x x.V[j+1] = false by unfold dY;rw [hfo];simp) (show dQ x.V[j] x.V[j+1] = true from h3);exact st
                | true =>
                  by_cases ha:a≤x.V[j+1].az
                  ·have NN:decide (x.V[j+1].az < a) = false:=decide_eq_false J;by_cases U:b2≤x.V[j+1].mem
                   ·have NO:decide (x.V[j+1].mem < b2) = false:=decide_eq_false J;by_cases hl:L≤x.V[j+1].ax
                    ·have gg:decide (x.V[j+1].ax < L) = false:=decide_eq_false J;as_aux_lemma =>
                      have hp:=nM (ok:=dY x) (less:=dQ) av (show dY x x.V[j+1] = true by unfold dY;rw [Z,hfo];simp [ha,U,hl]) (show dQ x.V[j] x.V[j+1] = true from h3);try simp only [Bool.and_false,Bool.and_true,Bool.false_and,Bool.and_self] at hp
                      have HN:=I (gq hall.out hp);clear hp;go_wp2_with fail
                      refine aF _ U' U' (aj _) ?_
                      repeat ((first | refine aG M ?_ | refine aH _ M Cy ?_);simp only [Act.put,pz])
                      refine aN ?_;intro wn X;replace X:=X.out;obtain ⟨jI,ky⟩:=ay X;have i7:w.heap.size < wn.heap.size:=sq X.size;have rI:b' < wn.heap.size:=sq X.size;try (have so:wr.heap.size < wn.heap.size:=sq X.size)
                      go_wp2_with (go_at_call 52;refine (jm x _ _ x.V[j+1].name _ (aJ h bL) Ji.out).mono ?_;rw [HU.out];rintro e w5 ⟨rfl,bs⟩;obtain ⟨py,ox⟩:=ay bs;have Es:w.heap.size < w5.heap.size:=(sq bs.size);have IV:b' < w5.heap.size:=(sq bs.size);(try have ud:wr.heap.size < w5.heap.size:=(sq bs.size)))
                      exact ⟨⟨j+1+1,J,N',HN.out,bL⟩,by simp [intOf];omega⟩
                    ·have gg:decide (x.V[j+1].ax < L) = true:=decide_eq_true J;as_aux_lemma =>have hp:=nM (ok:=dY x) (less:=dQ) av (show dY x x.V[j+1] = false by unfold dY;rw [Z,hfo];simp [ha,U,hl]) (show dQ x.V[j] x.V[j+1] = true from h3);exact st
                   ·have NO:decide (x.V[j+1].mem < b2) = true:=decide_eq_true J;as_aux_lemma =>have hp:=nM (ok:=dY x) (less:=dQ) av (show dY x x.V[j+1] = false by unfold dY;rw [Z,hfo];simp [ha,U]) (show dQ x.V[j] x.V[j+1] = true from h3);exact st
                  ·have NN:decide (x.V[j+1].az < a) = true:=decide_eq_true J;as_aux_lemma =>have hp:=nM (ok:=dY x) (less:=dQ) av (show dY x x.V[j+1] = false by unfold dY;rw [Z,hfo];simp [ha]) (show dQ x.V[j] x.V[j+1] = true from h3);exact st
          ·have bI:k = x.V.length:=J;subst bI;have jZ:=(ay aK).1;have ce0:=(jZ _ _ cJ).trans c0;have ce1:=(jZ _ _ cJ).trans c1;have ce2:=(jZ _ _ cJ).trans c2;have ce3:=(jZ _ _ cJ).trans c3;have ce4:=(jZ _ _ cJ).trans c4;have ce5:=(jZ _ _ cJ).trans c5;clear jZ;have HF:=I (OX HHD.out hall.out aqE.out HPF.out);have tX:w.heap.size < wr.heap.size:=(by have:=aK.size;omega);go_wp2;go_ret
           exact ⟨by rw [HF.out];rfl,ah im aK⟩
  ·have HF:=I (oU (x:=x) Yk);exact sE
 ·have HF:=I (oU (x:=x) Yl);exact sE
end Go.Proofs.YtajbbmembionpaaGreat
