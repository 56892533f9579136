/- ClusterOk, of the reference, where a cluster's parts are small. No condition. -/
import Derived.Test.YtjahcnjmjahbaaaGreatSmallHP
namespace Go.Proofs.YtjahcnjmjahbaaaGreat
open Go.ChangeShapes Go.WideShapes Go.ChangeAt Go.RowKit
set_option linter.unusedVariables false
set_option linter.unusedSimpArgs false
set_option maxHeartbeats 16000000
set_option maxRecDepth 100000
theorem Dx (x:aU) (cs:List Value) (F:List Nat) (w:World) (h:rd w x cs F) (cG:(x.Z.length:Int)≤1048576) (vk:(x.O.length:Int)≤1048576) (wj:∀y∈x.Z,U6 y) (ws:∀y∈x.O,Xl y.aS) :
 Calls Tryz.prog 20 #[.agg cs.toArray] w fun e w'=>e = .returned (.bool (iI x))∧Below w.heap.size w w':=by
 have wv:=I (fun k (hk:k < x.Z.length)=>wj x.Z[k] (List.getElem_mem ..));have sY:=I (fun k (hk:k < x.O.length)=>ws x.O[k] (List.getElem_mem ..));clear wj ws;have hr:=h;obtain ⟨bG,bD,fQ,dn,bW,jg,aw,hF,bQ,dM,hnext,aV,aP,aW⟩:=aO hr;subst aw;clear hF hr;obtain ⟨w0,hw0⟩:∃w0,w.alloc (.cells #[.slice bG x.Z.length bD,.slice dn x.O.length bW,.int .i64 x.next,.int .i64 x.weights.pack,.int .i64 x.weights.af,.int .i64 x.weights.an] 29) = w0:=⟨_,rfl⟩;have c0:w0.cell? ⟨w.heap.size,0,none⟩ = some (.slice bG x.Z.length bD):=by rw [← hw0,cell_of_row _ _ _ _ _ _ (heap_alloc_new w _)];rfl
 have c1:w0.cell? ⟨w.heap.size,1,none⟩ = some (.slice dn x.O.length bW):=by rw [← hw0,cell_of_row _ _ _ _ _ _ (heap_alloc_new w _)];rfl
 have c2:w0.cell? ⟨w.heap.size,2,none⟩ = some (.int .i64 x.next):=by rw [← hw0,cell_of_row _ _ _ _ _ _ (heap_alloc_new w _)];rfl
 have c3:w0.cell? ⟨w.heap.size,3,none⟩ = some (.int .i64 x.weights.pack):=by rw [← hw0,cell_of_row _ _ _ _ _ _ (heap_alloc_new w _)];rfl
 have c4:w0.cell? ⟨w.heap.size,4,none⟩ = some (.int .i64 x.weights.af):=by rw [← hw0,cell_of_row _ _ _ _ _ _ (heap_alloc_new w _)];rfl
 have c5:w0.cell? ⟨w.heap.size,5,none⟩ = some (.int .i64 x.weights.an):=by rw [← hw0,cell_of_row _ _ _ _ _ _ (heap_alloc_new w _)];rfl
 have jn:Below w.heap.size w w0:=by rw [← hw0];exact ak (aj _) _
 have cf:w.heap.size < w0.heap.size:=by rw [← hw0];simp
 have qk:=I hw0;clear hw0;by_cases hh1:(x.Z.length:Int)≤8
 ·by_cases hh2:(x.O.length:Int)≤12
  ·cases d':(decide ((1:Int)≤x.next)&&decide (x.next≤1000000000)) with
   | false =>have Jf:=I d';have HF:=I (oU (x:=x) Zu);clear d';exact tR
   | true =>
     have Jf:=I d';cases fW:zL x.weights.pack x.weights.af x.weights.an with
     | false =>have Du:=I fW;have HF:=I (oU (x:=x) Zw);clear d' fW;exact tR
     | true =>
       have Du:=I fW;have Ty:=I (show Em x = true by unfold Em;rw [d',fW];simp [hh1,hh2]);have uZ:1≤x.next∧x.next≤1000000000:=(by simpa using d');obtain ⟨uZ,sP⟩:=uZ;clear d' fW;go_enter Tryz.func20,Tryz.ntmps20;go_wp2_with fail
       rw [qk.out]
       go_wp2_with (first
        | (go_at_call 52;refine (kH x.next 1 1000000000 _).mono ?_;rw [Jf.out];rintro e w1 ⟨rfl,mB⟩;simp only [← mB];clear mB w1)
        | (go_at_call 53;refine (pW x.weights.pack x.weights.af x.weights.an _).mono ?_;rw [Du.out];rintro e w2 ⟨rfl,av⟩;obtain ⟨ce,cK⟩:=ay av;have cD:w.heap.size < w2.heap.size:=(sq av.size)))
       have Ji:=I vk;have NV:=I cG;have abk:x.O.length≤12:=J;go_wp2_with fail
       go_loopw [3] (fun i wr=>∃k:Nat,k≤x.O.length∧i = .int .i64 k∧Hid (∀j,j < k→bB (jT x) dw x.O j = true)∧Hid (∀j,j < k→DN x.O j = true)∧Below w0.heap.size w0 wr) (fun i _=>x.O.length - (intOf i).toNat)
       case atStart=>exact ⟨0,Nat.zero_le _,rfl,(fun j hj=>by omega),(fun j hj=>by omega),av⟩
       case round =>
        obtain ⟨k,hk,rfl,hall,hfresh,aE⟩:=hrel;by_cases ap:k < x.O.length
        ·obtain rfl | ⟨j,rfl⟩:k = 0∨∃j,k = j+1:=by cases k with | zero=>exact .inl rfl | succ j=>exact .inr ⟨j,rfl⟩
         ·obtain ⟨b,o,ck3,Fk3,rfl,aak,jd,eN,NW,cP⟩:=Sl.get (α:=ai) (A:=dn) (c:=bW) dM ap;have CJ:=eN;obtain ⟨fC,fD,yD,gB,gG,AA,bT,bU,qI,JG,JH,Dv,yE,FY,FZ,Dw,AB,qJ,aeg,Wv⟩:=kE CJ;subst JG;obtain ⟨q0,q1,q2,q3,q4,q5,q6,q7,q8⟩:=oE 9 cP;clear cP CJ JH;simp only [Nat.zero_mul,Nat.add_zero] at q0 q1 q2 q3 q4 q5 q6 q7 q8;obtain ⟨yR,don,U4,Gon,hdc,hdG,kG,_⟩:=eN;have ku:rd w x.O[0].aS [.string x.O[0].aS.name,.slice fC x.O[0].aS.labels.length fD,.int .i64 x.O[0].aS.ax,.int .i64 x.O[0].aS.mem,.int .i64 x.O[0].aS.aD,.slice gB x.O[0].aS.ag.length gG,.slice bT x.O[0].aS.ae.length bU] U4:=by
           exact mU
          clear hdc hdG kG;have bL:Below w.heap.size w wr:=ah jn aE;have jZ:=(ay aE).1;replace c0:=(jZ _ _ cf).trans c0;replace c1:=(jZ _ _ cf).trans c1;replace c2:=(jZ _ _ cf).trans c2;replace c3:=(jZ _ _ cf).trans c3;replace c4:=(jZ _ _ cf).trans c4;replace c5:=(jZ _ _ cf).trans c5;clear jZ;replace q0:=r' bL q0 jd;replace q1:=r' bL q1 jd;replace q2:=r' bL q2 jd;replace q3:=r' bL q3 jd;replace q4:=r' bL q4 jd;replace q5:=r' bL q5 jd;replace q6:=r' bL q6 jd;replace q7:=r' bL q7 jd;replace q8:=r' bL q8 jd;have WU:b < wr.heap.size:=(by have:=bL.size;omega);have tX:w.heap.size < wr.heap.size:=(by have:=aE.size;omega);have Ue:=dM.Ec x.O[0] (List.getElem_mem ..);have TA:=Ue.1;have TB:=Ue.2;have dr:=sY.out (0) ap;have Ea:IntKind.i64.wrap (x.next - 1) = x.next - 1:=IntWalk.i64_in _ J;obtain ⟨wi,hwi⟩:∃wi,(decide ((1:Int)≤x.O[0].seq)&&decide (x.O[0].seq≤x.next - 1)) = wi:=⟨_,rfl⟩;have LQ:=I hwi;cases h1:GU x.O[0].aS with
          | false =>have H1:=I h1;as_aux_lemma =>have hp:=pV (ok:=jT x) (less:=dw) ap (show jT x x.O[0] = false by unfold jT;rw [h1];rfl);have HF:=I (jP ap hp);clear hp;exact AF
          | true =>
            have H1:=I h1;cases wi with
            | false =>
              as_aux_lemma =>
               have hp:=pV (ok:=jT x) (less:=dw) ap (show jT x x.O[0] = false by unfold jT;rw [hwi];simp);have HF:=I (jP ap hp);clear hp;exact AF
            | true =>
              cases eO:(x.O[0].on.toList == []) with
              | true =>have Hg:=I (show True from trivial);have OW:(x.O[0].on.toList != []) = false:=(by unfold bne;rw [eO];rfl);as_aux_lemma =>have hp:=pV (ok:=jT x) (less:=dw) ap (show jT x x.O[0] = true by unfold jT;rw [h1,hwi,eO];rfl);exact FJ
              | false =>
                have OW:(x.O[0].on.toList != []) = true:=(by unfold bne;rw [eO];rfl);rcases yg (iM x.O[0].on) x.Z with hi | ⟨iz,hiz,hi⟩
                ·have Hg:=I hi;as_aux_lemma =>have hp:=pV (ok:=jT x) (less:=dw) ap (show jT x x.O[0] = false by unfold jT;rw [hi,eO];simp);have HF:=I (jP ap hp);clear hp hi;exact AF
                ·have Hg:=I hi;have TC:decide ((iz:Int) < 0) = false:=decide_eq_false J;have By:jT x x.O[0] = true:=(by unfold jT;rw [h1,hwi,eO,hi];simp);clear hi;as_aux_lemma =>have hp:=pV (ok:=jT x) (less:=dw) ap (show jT x x.O[0] = true by exact By);exact FJ
         ·obtain ⟨b,o,ck3,Fk3,rfl,aak,jd,eN,NW,cP⟩:=Sl.get (α:=ai) (A:=dn) (c:=bW) dM ap;have CJ:=eN;obtain ⟨fC,fD,yD,gB,gG,AA,bT,bU,qI,JG,JH,Dv,yE,FY,FZ,Dw,AB,qJ,aeg,Wv⟩:=kE CJ;subst JG;obtain ⟨q0,q1,q2,q3,q4,q5,q6,q7,q8⟩:=oE 9 cP;clear cP CJ JH;obtain ⟨b',o',ck4,Fk4,e,anJ,sZ,o8,afh,ei⟩:=Sl.get (α:=ai) (c:=bW) dM (show j < x.O.length by omega);have P9:=o8;obtain ⟨BK,BL,Q9,Ed,Ee,U5,uj,um,JD,aal,aam,YE,Fa,NZ,N7,J4,Hl,yF,alK,adB⟩:=kE P9;subst aal;obtain ⟨rfl,rfl⟩:b' = b∧o' = o:=by simpa using e.symm
          clear e;obtain ⟨p0,p1,p2,p3,p4,p5,p6,p7,p8⟩:=oE 9 ei;clear ei P9 aam;obtain ⟨yR,don,U4,Gon,hdc,hdG,kG,_⟩:=eN;have ku:rd w x.O[j+1].aS [.string x.O[j+1].aS.name,.slice fC x.O[j+1].aS.labels.length fD,.int .i64 x.O[j+1].aS.ax,.int .i64 x.O[j+1].aS.mem,.int .i64 x.O[j+1].aS.aD,.slice gB x.O[j+1].aS.ag.length gG,.slice bT x.O[j+1].aS.ae.length bU] U4:=by
           exact mU
          clear hdc hdG kG;have bL:Below w.heap.size w wr:=ah jn aE;have jZ:=(ay aE).1;replace c0:=(jZ _ _ cf).trans c0;replace c1:=(jZ _ _ cf).trans c1;replace c2:=(jZ _ _ cf).trans c2;replace c3:=(jZ _ _ cf).trans c3;replace c4:=(jZ _ _ cf).trans c4;replace c5:=(jZ _ _ cf).trans c5;clear jZ;replace q0:=r' bL q0 jd;replace q1:=r' bL q1 jd;replace q2:=r' bL q2 jd;replace q3:=r' bL q3 jd;replace q4:=r' bL q4 jd;replace q5:=r' bL q5 jd;replace q6:=r' bL q6 jd;replace q7:=r' bL q7 jd;replace q8:=r' bL q8 jd;replace p0:=r' bL p0 sZ;replace p1:=r' bL p1 sZ;replace p2:=r' bL p2 sZ;replace p3:=r' bL p3 sZ;replace p4:=r' bL p4 sZ;replace p5:=r' bL p5 sZ;replace p6:=r' bL p6 sZ;replace p7:=r' bL p7 sZ;replace p8:=r' bL p8 sZ;have WU:b' < wr.heap.size:=(by have:=bL.size;omega);have tX:w.heap.size < wr.heap.size:=(by have:=aE.size;omega);have Ue:=dM.Ec x.O[j+1] (List.getElem_mem ..);have TA:=Ue.1;have TB:=Ue.2;have dr:=sY.out (j+1) ap;have Ea:IntKind.i64.wrap (x.next - 1) = x.next - 1:=IntWalk.i64_in _ J;have pa:IntKind.i64.wrap (j:Int) = j:=IntWalk.i64_in _ J;have gC:j < x.O.length:=J;clear p1 p2 p3 p4 p5 p6 p7 p8 Fa Hl yF NZ N7 J4 alK adB;obtain ⟨wi,hwi⟩:∃wi,(decide ((1:Int)≤x.O[j+1].seq)&&decide (x.O[j+1].seq≤x.next - 1)) = wi:=⟨_,rfl⟩;have LQ:=I hwi;cases h1:GU x.O[j+1].aS with
          | false =>have H1:=I h1;obtain ⟨u3,h3⟩:∃u,dw x.O[j] x.O[j+1] = u:=⟨_,rfl⟩;as_aux_lemma =>have hp:=nM (ok:=jT x) (less:=dw) ap (show jT x x.O[j+1] = false by unfold jT;rw [h1];rfl) (show dw x.O[j] x.O[j+1] = u3 from h3);exact Kx
          | true =>
            have H1:=I h1;cases h3:Op.bytesLess x.O[j].aS.name.toList x.O[j+1].aS.name.toList with
            | false =>
              as_aux_lemma =>
               obtain ⟨v,hv⟩:∃v,jT x x.O[j+1] = v:=⟨_,rfl⟩;have hp:=nM (ok:=jT x) (less:=dw) ap (show jT x x.O[j+1] = v by exact hv) (show dw x.O[j] x.O[j+1] = false from h3);try simp only [Bool.and_false,Bool.and_true,Bool.false_and,Bool.and_self] at hp
               have HF:=I (jP ap hp);clear hp hv;exact AD
            | true =>
              cases wi with
              | false =>
                as_aux_lemma =>
                 have hp:=nM (ok:=jT x) (less:=dw) ap (show jT x x.O[j+1] = false by unfold jT;rw [hwi];simp) (show dw x.O[j] x.O[j+1] = true from h3);exact Kx
              | true =>
                cases eO:(x.O[j+1].on.toList == []) with
                | true =>have Hg:=I (show True from trivial);have OW:(x.O[j+1].on.toList != []) = false:=(by unfold bne;rw [eO];rfl);as_aux_lemma =>have hp:=nM (ok:=jT x) (less:=dw) ap (show jT x x.O[j+1] = true by unfold jT;rw [h1,hwi,eO];rfl) (show dw x.O[j] x.O[j+1] = true from h3);exact E4
                | false =>
                  have OW:(x.O[j+1].on.toList != []) = true:=(by unfold bne;rw [eO];rfl);rcases yg (iM x.O[j+1].on) x.Z with hi | ⟨iz,hiz,hi⟩
                  ·have Hg:=I hi;as_aux_lemma =>
                    have hp:=nM (ok:=jT x) (less:=dw) ap (show jT x x.O[j+1] = false by unfold jT;rw [hi,eO];simp) (show dw x.O[j] x.O[j+1] = true from h3);try simp only [Bool.and_false,Bool.and_true,Bool.false_and,Bool.and_self] at hp
                    have HF:=I (jP ap hp);clear hp hi;exact AD
                  ·have Hg:=I hi;have TC:decide ((iz:Int) < 0) = false:=decide_eq_false J;have By:jT x x.O[j+1] = true:=(by unfold jT;rw [h1,hwi,eO,hi];simp);clear hi;as_aux_lemma =>have hp:=nM (ok:=jT x) (less:=dw) ap (show jT x x.O[j+1] = true by exact By) (show dw x.O[j] x.O[j+1] = true from h3);exact E4
        ·have bx:k = x.O.length:=J;subst bx;have aqE:=I hall.out;have HPF:=I hfresh.out;clear hall hfresh;obtain ⟨wp,u4⟩:∃wp,wp = wr:=⟨_,rfl⟩;subst u4;have Lc:=aE;have hzp:w0.heap.size≤wp.heap.size:=aE.size;clear aE ap;have JI:=(ay Lc).1;have cp0:=(JI _ _ cf).trans c0;have cp1:=(JI _ _ cf).trans c1;have cp2:=(JI _ _ cf).trans c2;have cp3:=(JI _ _ cf).trans c3;have cp4:=(JI _ _ cf).trans c4;have cp5:=(JI _ _ cf).trans c5;clear JI;have TE:w.heap.size < wp.heap.size:=J;have Ji:=I vk;have NV:=I cG;have abk:x.O.length≤12:=J;go_wp2_with fail
         go_loopw [6] (fun i wr=>∃k:Nat,k≤x.Z.length∧i = .int .i64 k∧Hid (∀j,j < k→bB (dY x) dQ x.Z j = true)∧Below w0.heap.size w0 wr) (fun i _=>x.Z.length - (intOf i).toNat)
         case atStart=>exact ⟨0,Nat.zero_le _,rfl,(fun j hj=>by omega),Lc⟩
         case round =>
          obtain ⟨k,hk,rfl,hall,aE⟩:=hrel;by_cases ap:k < x.Z.length
          ·obtain rfl | ⟨j,rfl⟩:k = 0∨∃j,k = j+1:=by cases k with | zero=>exact .inl rfl | succ j=>exact .inr ⟨j,rfl⟩
           ·obtain ⟨b,o,ck3,Fk3,rfl,aak,jd,eN,NW,cP⟩:=Sl.get (α:=az) (A:=bG) (c:=bD) bQ ap;have CJ:=eN;obtain ⟨jM,jO,sN,jE,jF,sO,JG,JH,zM,qY,Gt,Gw,xg,qA⟩:=iy CJ;subst JG;obtain ⟨q0,q1,q2,q3,q4,q5⟩:=mE 6 cP;clear cP CJ JH;simp only [Nat.zero_mul,Nat.add_zero] at q0 q1 q2 q3 q4 q5;have bL:Below w.heap.size w wr:=ah jn aE;have jZ:=(ay aE).1;replace c0:=(jZ _ _ cf).trans c0;replace c1:=(jZ _ _ cf).trans c1;replace c2:=(jZ _ _ cf).trans c2;replace c3:=(jZ _ _ cf).trans c3;replace c4:=(jZ _ _ cf).trans c4;replace c5:=(jZ _ _ cf).trans c5;clear jZ;replace q0:=r' bL q0 jd;replace q1:=r' bL q1 jd;replace q2:=r' bL q2 jd;replace q3:=r' bL q3 jd;replace q4:=r' bL q4 jd;replace q5:=r' bL q5 jd;have WU:b < wr.heap.size:=(by have:=bL.size;omega);have tX:w.heap.size < wr.heap.size:=(by have:=aE.size;omega);have dr:=wv.out (0) ap;obtain ⟨a,b2,L,sT,hus,hfo,hL0,hL1⟩:=E8 x x.Z[0];have HU:=I hus;clear hus;have Ef:L≤12:=J;cases h1:Aj x.Z[0] with
            | false =>
              have H1:=I h1;as_aux_lemma =>
               have hp:=pV (ok:=dY x) (less:=dQ) ap (show dY x x.Z[0] = false by unfold dY;rw [h1];rfl);have HF:=I (dW ap hp);clear hp;go_wp2_with fail
               refine aF _ U' U' (aj _) ?_
               repeat ((first | refine aG X ?_ | refine aH _ X Ga ?_);simp only [Act.put,pz])
               exact FG
            | true =>
              have H1:=I h1;cases sT with
              | false =>
                as_aux_lemma =>
                 have hp:=pV (ok:=dY x) (less:=dQ) ap (show dY x x.Z[0] = false by unfold dY;rw [hfo];simp);exact tE
              | true =>
                by_cases ha:a≤x.Z[0].ax
                ·have BA:decide (x.Z[0].ax < a) = false:=decide_eq_false J;by_cases hb:b2≤x.Z[0].mem
                 ·have BB:decide (x.Z[0].mem < b2) = false:=decide_eq_false J;by_cases hl:L≤x.Z[0].ar
                  ·have fY:decide (x.Z[0].ar < L) = false:=decide_eq_false J;as_aux_lemma =>
                    have hp:=pV (ok:=dY x) (less:=dQ) ap (show dY x x.Z[0] = true by unfold dY;rw [h1,hfo];simp [ha,hb,hl]);have HN:=I (gq hall.out hp);clear hp;go_wp2_with fail
                    refine aF _ U' U' (aj _) ?_
                    repeat ((first | refine aG X ?_ | refine aH _ X Ga ?_);simp only [Act.put,pz])
                    refine aN ?_;intro wn hn;replace hn:=hn.out;obtain ⟨jz,kz⟩:=ay hn;have jA:w.heap.size < wn.heap.size:=sq hn.size;have pr:b < wn.heap.size:=sq hn.size;try (have qa:wr.heap.size < wn.heap.size:=sq hn.size)
                    go_wp2_with (go_at_call 57;refine (jm x _ _ x.Z[0].name _ (aJ h bs) Ji.out).mono ?_;rw [HU.out];rintro e w5 ⟨rfl,bo⟩;obtain ⟨lp,ki⟩:=ay bo;have Es:w.heap.size < w5.heap.size:=(sq bo.size);have IV:b < w5.heap.size:=(sq bo.size);(try have ir:wr.heap.size < w5.heap.size:=(sq bo.size)))
                    exact ⟨⟨0+1,J,N',HN.out,bs⟩,by simp [intOf];omega⟩
                  ·have fY:decide (x.Z[0].ar < L) = true:=decide_eq_true J;as_aux_lemma =>have hp:=pV (ok:=dY x) (less:=dQ) ap (show dY x x.Z[0] = false by unfold dY;rw [h1,hfo];simp [ha,hb,hl]);exact tE
                 ·have BB:decide (x.Z[0].mem < b2) = true:=decide_eq_true J;as_aux_lemma =>have hp:=pV (ok:=dY x) (less:=dQ) ap (show dY x x.Z[0] = false by unfold dY;rw [h1,hfo];simp [ha,hb]);exact tE
                ·have BA:decide (x.Z[0].ax < a) = true:=decide_eq_true J;as_aux_lemma =>have hp:=pV (ok:=dY x) (less:=dQ) ap (show dY x x.Z[0] = false by unfold dY;rw [h1,hfo];simp [ha]);exact tE
           ·obtain ⟨b,o,ck3,Fk3,rfl,aak,jd,eN,NW,cP⟩:=Sl.get (α:=az) (A:=bG) (c:=bD) bQ ap;have CJ:=eN;obtain ⟨jM,jO,sN,jE,jF,sO,JG,JH,zM,qY,Gt,Gw,xg,qA⟩:=iy CJ;subst JG;obtain ⟨q0,q1,q2,q3,q4,q5⟩:=mE 6 cP;clear cP CJ JH;obtain ⟨b',o',ck4,Fk4,e,anJ,sZ,o8,afh,ei⟩:=Sl.get (α:=az) (c:=bD) bQ (show j < x.Z.length by omega);have P9:=o8;obtain ⟨vS,vT,Bc,Jj,Jk,Xk,aal,aam,IZ,wL,JY,JZ,OV,KE⟩:=iy P9;subst aal;obtain ⟨rfl,rfl⟩:b' = b∧o' = o:=by simpa using e.symm
            clear e;obtain ⟨p0,p1,p2,p3,p4,p5⟩:=mE 6 ei;clear ei P9 aam;have bL:Below w.heap.size w wr:=ah jn aE;have jZ:=(ay aE).1;replace c0:=(jZ _ _ cf).trans c0;replace c1:=(jZ _ _ cf).trans c1;replace c2:=(jZ _ _ cf).trans c2;replace c3:=(jZ _ _ cf).trans c3;replace c4:=(jZ _ _ cf).trans c4;replace c5:=(jZ _ _ cf).trans c5;clear jZ;replace q0:=r' bL q0 jd;replace q1:=r' bL q1 jd;replace q2:=r' bL q2 jd;replace q3:=r' bL q3 jd;replace q4:=r' bL q4 jd;replace q5:=r' bL q5 jd;replace p0:=r' bL p0 sZ;replace p1:=r' bL p1 sZ;replace p2:=r' bL p2 sZ;replace p3:=r' bL p3 sZ;replace p4:=r' bL p4 sZ;replace p5:=r' bL p5 sZ;have WU:b' < wr.heap.size:=(by have:=bL.size;omega);have tX:w.heap.size < wr.heap.size:=(by have:=aE.size;omega);have dr:=wv.out (j+1) ap;have pa:IntKind.i64.wrap (j:Int) = j:=IntWalk.i64_in _ J;have gC:j < x.Z.length:=J;clear p1 p2 p3 p4 p5 wL KE JY JZ OV;obtain ⟨a,b2,L,sT,hus,hfo,hL0,hL1⟩:=E8 x x.Z[j+1];have HU:=I hus;clear hus;have Ef:L≤12:=J;cases h1:Aj x.Z[j+1] with
            | false =>have H1:=I h1;obtain ⟨u3,h3⟩:∃u,dQ x.Z[j] x.Z[j+1] = u:=⟨_,rfl⟩;as_aux_lemma =>have hp:=nM (ok:=dY x) (less:=dQ) ap (show dY x x.Z[j+1] = false by unfold dY;rw [h1];rfl) (show dQ x.Z[j] x.Z[j+1] = u3 from h3);exact Ka
            | true =>
              have H1:=I h1;cases h3:Op.bytesLess x.Z[j].name.toList x.Z[j+1].name.toList with
              | false =>obtain ⟨v,hv⟩:∃v,dY x x.Z[j+1] = v:=⟨_,rfl⟩;as_aux_lemma =>have hp:=nM (ok:=dY x) (less:=dQ) ap (show dY x x.Z[j+1] = v by exact hv) (show dQ x.Z[j] x.Z[j+1] = false from h3);exact Ka
              | true =>
                cases sT with
                | false =>
                  as_aux_lemma =>
                   have hp:=nM (ok:=dY x) (less:=dQ) ap (show dY x x.Z[j+1] = false by unfold dY;rw [hfo];simp) (show dQ x.Z[j] x.Z[j+1] = true from h3);exact tD
                | true =>
                  by_cases ha:a≤x.Z[j+1].ax
                  ·have BA:decide (x.Z[j+1].ax < a) = false:=decide_eq_false J;by_cases hb:b2≤x.Z[j+1].mem
                   ·have BB:decide (x.Z[j+1].mem < b2) = false:=decide_eq_false J;by_cases hl:L≤x.Z[j+1].ar
                    ·have fY:decide (x.Z[j+1].ar < L) = false:=decide_eq_false J;as_aux_lemma =>
                      have hp:=nM (ok:=dY x) (less:=dQ) ap (show dY x x.Z[j+1] = true by unfold dY;rw [h1,hfo];simp [ha,hb,hl]) (show dQ x.Z[j] x.Z[j+1] = true from h3);try simp only [Bool.and_false,Bool.and_true,Bool.false_and,Bool.and_self] at hp
                      have HN:=I (gq hall.out hp);clear hp;go_wp2_with fail
                      refine aF _ U' U' (aj _) ?_
                      repeat ((first | refine aG X ?_ | refine aH _ X FM ?_);simp only [Act.put,pz])
                      refine aN ?_;intro wn hn;replace hn:=hn.out;obtain ⟨jz,kz⟩:=ay hn;have jA:w.heap.size < wn.heap.size:=sq hn.size;have pr:b' < wn.heap.size:=sq hn.size;try (have qa:wr.heap.size < wn.heap.size:=sq hn.size)
                      go_wp2_with (go_at_call 57;refine (jm x _ _ x.Z[j+1].name _ (aJ h bs) Ji.out).mono ?_;rw [HU.out];rintro e w5 ⟨rfl,bo⟩;obtain ⟨lp,ki⟩:=ay bo;have Es:w.heap.size < w5.heap.size:=(sq bo.size);have IV:b' < w5.heap.size:=(sq bo.size);(try have ir:wr.heap.size < w5.heap.size:=(sq bo.size)))
                      exact ⟨⟨j+1+1,J,N',HN.out,bs⟩,by simp [intOf];omega⟩
                    ·have fY:decide (x.Z[j+1].ar < L) = true:=decide_eq_true J;as_aux_lemma =>have hp:=nM (ok:=dY x) (less:=dQ) ap (show dY x x.Z[j+1] = false by unfold dY;rw [h1,hfo];simp [ha,hb,hl]) (show dQ x.Z[j] x.Z[j+1] = true from h3);exact tD
                   ·have BB:decide (x.Z[j+1].mem < b2) = true:=decide_eq_true J;as_aux_lemma =>have hp:=nM (ok:=dY x) (less:=dQ) ap (show dY x x.Z[j+1] = false by unfold dY;rw [h1,hfo];simp [ha,hb]) (show dQ x.Z[j] x.Z[j+1] = true from h3);exact tD
                  ·have BA:decide (x.Z[j+1].ax < a) = true:=decide_eq_true J;as_aux_lemma =>have hp:=nM (ok:=dY x) (less:=dQ) ap (show dY x x.Z[j+1] = false by unfold dY;rw [h1,hfo];simp [ha]) (show dQ x.Z[j] x.Z[j+1] = true from h3);exact tD
          ·have bx:k = x.Z.length:=J;subst bx;have jZ:=(ay aE).1;have ce0:=(jZ _ _ cf).trans c0;have ce1:=(jZ _ _ cf).trans c1;have ce2:=(jZ _ _ cf).trans c2;have ce3:=(jZ _ _ cf).trans c3;have ce4:=(jZ _ _ cf).trans c4;have ce5:=(jZ _ _ cf).trans c5;clear jZ;have HF:=I (OX Ty.out hall.out aqE.out HPF.out);have tX:w.heap.size < wr.heap.size:=(by have:=aE.size;omega);go_wp2;go_ret
           exact ⟨by rw [HF.out];rfl,ah jn aE⟩
  ·have HF:=I (oU (x:=x) Zx);exact tR
 ·have HF:=I (oU (x:=x) Zy);exact tR
end Go.Proofs.YtjahcnjmjahbaaaGreat
