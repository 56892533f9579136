/- ClusterOk, of the program, where a cluster's parts are small. No condition. -/
import Derived.Test.YtjahcnjmjahbaaaGreatSeqMap
namespace Go.Proofs.YtjahcnjmjahbaaaGreat
open Go.ChangeShapes Go.WideShapes Go.ChangeAt Go.RowKit
set_option linter.unusedVariables false
set_option linter.unusedSimpArgs false
set_option maxHeartbeats 16000000
set_option maxRecDepth 100000
theorem aeh (x:aU) (cs:List Value) (F:List Nat) (w:World) (h:rd w x cs F) (cA:(x.aa.length:Int)<=1048576) (vk:(x.O.length:Int)<=1048576) (Pg:∀y∈x.aa,U6 y) (Ph:∀y∈x.O,Xl y.aS) :
 Calls Tryz.prog 28 #[.agg cs.toArray] w λe w'=>e = .returned (.bool (iI x))/\Below w.heap.size w w':=by
 have th:=I (λk (hk:k < x.aa.length)=>Pg x.aa[k] (List.getElem_mem ..));have qq:=I (λk (hk:k < x.O.length)=>Ph x.O[k] (List.getElem_mem ..));clear Pg Ph;have hr:=h;obtain ⟨bG,bD,fQ,dn,bW,jg,aq,hF,bQ,dM,hnext,aV,aP,aW⟩:=aO hr;subst aq;clear hF hr;obtain ⟨w0,hw0⟩:∃w0,w.alloc (.cells #[.slice bG x.aa.length bD,.slice dn x.O.length bW,.int .i64 x.next,.int .i64 x.weights.pack,.int .i64 x.weights.spread,.int .i64 x.weights.soft] 29) = w0:=⟨_,rfl⟩;have c0:w0.cell? ⟨w.heap.size,0,none⟩ = some (.slice bG x.aa.length bD):=by rw [<- hw0,cell_of_row _ _ _ _ _ _ (heap_alloc_new w _)];rfl
 have c1:w0.cell? ⟨w.heap.size,1,none⟩ = some (.slice dn x.O.length bW):=by rw [<- hw0,cell_of_row _ _ _ _ _ _ (heap_alloc_new w _)];rfl
 have c2:w0.cell? ⟨w.heap.size,2,none⟩ = some (.int .i64 x.next):=by rw [<- hw0,cell_of_row _ _ _ _ _ _ (heap_alloc_new w _)];rfl
 have c3:w0.cell? ⟨w.heap.size,3,none⟩ = some (.int .i64 x.weights.pack):=by rw [<- hw0,cell_of_row _ _ _ _ _ _ (heap_alloc_new w _)];rfl
 have c4:w0.cell? ⟨w.heap.size,4,none⟩ = some (.int .i64 x.weights.spread):=by rw [<- hw0,cell_of_row _ _ _ _ _ _ (heap_alloc_new w _)];rfl
 have c5:w0.cell? ⟨w.heap.size,5,none⟩ = some (.int .i64 x.weights.soft):=by rw [<- hw0,cell_of_row _ _ _ _ _ _ (heap_alloc_new w _)];rfl
 have kd:Below w.heap.size w w0:=by rw [<- hw0];exact ak (aj _) _
 have cb:w.heap.size < w0.heap.size:=by rw [<- hw0];simp
 have sn:=I hw0;clear hw0;by_cases hh1:(x.aa.length:Int)<=8
 ·by_cases hh2:(x.O.length:Int)<=12
  ·cases dC:(decide ((1:Int)<=x.next)&&decide (x.next<=1000000000)) with
   | false =>have Jf:=I dC;have HF:=I (oU (x:=x) avX);clear dC;exact wN
   | true =>
     have Jf:=I dC;cases fS:zL x.weights.pack x.weights.spread x.weights.soft with
     | false =>have Du:=I fS;have HF:=I (oU (x:=x) avY);clear dC fS;exact wN
     | true =>
       have Du:=I fS;have XT:=I (show Em x = true by unfold Em;rw [dC,fS];simp [hh1,hh2]);have yc:1<=x.next/\x.next<=1000000000:=(by simpa using dC);obtain ⟨yc,pc⟩:=yc;clear dC fS;go_enter Tryz.func28,Tryz.ntmps28;go_wp2_with fail
       rw [sn.out]
       go_wp2_with (first
        | (go_at_call 68;refine (jc x.next 1 1000000000 _).mono ?_;rw [Jf.out];rintro e w1 ⟨rfl,hZ⟩;simp only [<- hZ];clear hZ w1)
        | (go_at_call 69;refine (pU x.weights.pack x.weights.spread x.weights.soft _).mono ?_;rw [Du.out];rintro e w2 ⟨rfl,ap⟩;obtain ⟨bX,cE⟩:=ay ap;have cr:w.heap.size < w2.heap.size:=(sq ap.size)))
       have Ji:=I vk;have NV:=I cA;have abk:x.O.length<=12:=J;go_wp2_with fail
       go_loopw [37] (λi wr=>∃k:Nat,k<=x.aa.length/\i = .int .i64 k/\Hid (∀j,j < k->rowAt (dY x) dQ x.aa j = true)/\Below w0.heap.size w0 wr) (λi _=>x.aa.length - (intOf i).toNat)
       case atStart=>exact ⟨0,Nat.zero_le _,rfl,(λj hj=>by omega),ap⟩
       case round =>
        obtain ⟨k,hk,rfl,hall,ax⟩:=hrel;by_cases am:k < x.aa.length
        ·obtain rfl | ⟨j,rfl⟩:k = 0∨∃j,k = j+1:=by cases k with | zero=>exact .inl rfl | succ j=>exact .inr ⟨j,rfl⟩
         ·obtain ⟨b,o,ck3,Fk3,rfl,aak,jd,ek,NW,cK⟩:=Sl.get (α:=az) (A:=bG) (c:=bD) bQ am;have CJ:=ek;obtain ⟨jM,jO,sN,jE,jF,sO,JG,JH,zM,qY,Gt,Gw,xg,qA⟩:=iy CJ;subst JG;obtain ⟨q0,q1,q2,q3,q4,q5⟩:=mN 6 cK;clear cK CJ JH;simp only [Nat.zero_mul,Nat.add_zero] at q0 q1 q2 q3 q4 q5;have bu:Below w.heap.size w wr:=ah kd ax;have jZ:=(ay ax).1;replace c0:=(jZ _ _ cb).trans c0;replace c1:=(jZ _ _ cb).trans c1;replace c2:=(jZ _ _ cb).trans c2;replace c3:=(jZ _ _ cb).trans c3;replace c4:=(jZ _ _ cb).trans c4;replace c5:=(jZ _ _ cb).trans c5;clear jZ;replace q0:=r' bu q0 jd;replace q1:=r' bu q1 jd;replace q2:=r' bu q2 jd;replace q3:=r' bu q3 jd;replace q4:=r' bu q4 jd;replace q5:=r' bu q5 jd;have WU:b < wr.heap.size:=(by have:=bu.size;omega);have tX:w.heap.size < wr.heap.size:=(by have:=ax.size;omega);have df:=th.out (0) am;obtain ⟨a,b2,L,vl,hus,hfo,hL0,hL1⟩:=E8 x x.aa[0];have HU:=I hus;clear hus;have IA:L<=12:=J;cases h1:Aj x.aa[0] with
          | false =>have H1:=I h1;as_aux_lemma =>have hp:=pV (ok:=dY x) (less:=dQ) am (show dY x x.aa[0] = false by unfold dY;rw [h1];rfl);exact sg
          | true =>
            have H1:=I h1;cases vl with
            | false =>
              as_aux_lemma =>
               have hp:=pV (ok:=dY x) (less:=dQ) am (show dY x x.aa[0] = false by unfold dY;rw [hfo];simp);exact sg
            | true =>
              by_cases ha:a<=x.aa[0].aw
              ·have Ez:decide (x.aa[0].aw < a) = false:=decide_eq_false J;by_cases hb:b2<=x.aa[0].mem
               ·have EA:decide (x.aa[0].mem < b2) = false:=decide_eq_false J;by_cases hl:L<=x.aa[0].slots
                ·have ga:decide (x.aa[0].slots < L) = false:=decide_eq_false J;as_aux_lemma =>
                  have hp:=pV (ok:=dY x) (less:=dQ) am (show dY x x.aa[0] = true by unfold dY;rw [h1,hfo];simp [ha,hb,hl]);have HN:=I (gq hall.out hp);clear hp;go_wp2_with (go_at_call 70;refine (iQ x _ _ x.aa[0].name _ (aJ h bc) Ji.out).mono ?_;rw [HU.out];rintro e w5 ⟨rfl,bj⟩;obtain ⟨j7,kD⟩:=ay bj;have Es:w.heap.size < w5.heap.size:=(sq bj.size);have IV:b < w5.heap.size:=(sq bj.size);(try have iL:wr.heap.size < w5.heap.size:=(sq bj.size)))
                  clear q0 q1 q2 q3 q4 q5;refine aF _ U' U' (aj _) ?_
                  repeat ((first | refine aG J' ?_ | refine aH _ J' Kk ?_);simp only [Act.put,pz])
                  refine aN ?_;intro wn hn;replace hn:=hn.out;obtain ⟨km,ly⟩:=ay hn;have kn:w.heap.size < wn.heap.size:=sq hn.size;have ra:b < wn.heap.size:=sq hn.size;try (have sc:wr.heap.size < wn.heap.size:=sq hn.size)
                  go_wp2;exact ⟨⟨0+1,J,N',HN.out,bc⟩,by simp [intOf];omega⟩
                ·have ga:decide (x.aa[0].slots < L) = true:=decide_eq_true J;as_aux_lemma =>have hp:=pV (ok:=dY x) (less:=dQ) am (show dY x x.aa[0] = false by unfold dY;rw [h1,hfo];simp [ha,hb,hl]);exact sg
               ·have EA:decide (x.aa[0].mem < b2) = true:=decide_eq_true J;as_aux_lemma =>have hp:=pV (ok:=dY x) (less:=dQ) am (show dY x x.aa[0] = false by unfold dY;rw [h1,hfo];simp [ha,hb]);exact sg
              ·have Ez:decide (x.aa[0].aw < a) = true:=decide_eq_true J;as_aux_lemma =>have hp:=pV (ok:=dY x) (less:=dQ) am (show dY x x.aa[0] = false by unfold dY;rw [h1,hfo];simp [ha]);exact sg
         ·obtain ⟨b,o,ck3,Fk3,rfl,aak,jd,ek,NW,cK⟩:=Sl.get (α:=az) (A:=bG) (c:=bD) bQ am;have CJ:=ek;obtain ⟨jM,jO,sN,jE,jF,sO,JG,JH,zM,qY,Gt,Gw,xg,qA⟩:=iy CJ;subst JG;obtain ⟨q0,q1,q2,q3,q4,q5⟩:=mN 6 cK;clear cK CJ JH;obtain ⟨b',o',ck4,Fk4,e,anJ,sZ,lN,afh,ej⟩:=Sl.get (α:=az) (c:=bD) bQ (show j < x.aa.length by omega);have P9:=lN;obtain ⟨vS,vT,Bc,Jj,Jk,Xk,aal,aam,IZ,wL,JY,JZ,OV,KE⟩:=iy P9;subst aal;obtain ⟨rfl,rfl⟩:b' = b/\o' = o:=by simpa using e.symm
          clear e;obtain ⟨p0,p1,p2,p3,p4,p5⟩:=mN 6 ej;clear ej P9 aam;have bu:Below w.heap.size w wr:=ah kd ax;have jZ:=(ay ax).1;replace c0:=(jZ _ _ cb).trans c0;replace c1:=(jZ _ _ cb).trans c1;replace c2:=(jZ _ _ cb).trans c2;replace c3:=(jZ _ _ cb).trans c3;replace c4:=(jZ _ _ cb).trans c4;replace c5:=(jZ _ _ cb).trans c5;clear jZ;replace q0:=r' bu q0 jd;replace q1:=r' bu q1 jd;replace q2:=r' bu q2 jd;replace q3:=r' bu q3 jd;replace q4:=r' bu q4 jd;replace q5:=r' bu q5 jd;replace p0:=r' bu p0 sZ;replace p1:=r' bu p1 sZ;replace p2:=r' bu p2 sZ;replace p3:=r' bu p3 sZ;replace p4:=r' bu p4 sZ;replace p5:=r' bu p5 sZ;have WU:b' < wr.heap.size:=(by have:=bu.size;omega);have tX:w.heap.size < wr.heap.size:=(by have:=ax.size;omega);have df:=th.out (j+1) am;have qd:IntKind.i64.wrap (j:Int) = j:=IntWalk.i64_in _ J;have gp:j < x.aa.length:=J;clear p1 p2 p3 p4 p5 wL KE JY JZ OV;obtain ⟨a,b2,L,vl,hus,hfo,hL0,hL1⟩:=E8 x x.aa[j+1];have HU:=I hus;clear hus;have IA:L<=12:=J;cases h1:Aj x.aa[j+1] with
          | false =>have H1:=I h1;obtain ⟨u3,h3⟩:∃u,dQ x.aa[j] x.aa[j+1] = u:=⟨_,rfl⟩;as_aux_lemma =>have hp:=nM (ok:=dY x) (less:=dQ) am (show dY x x.aa[j+1] = false by unfold dY;rw [h1];rfl) (show dQ x.aa[j] x.aa[j+1] = u3 from h3);exact pA
          | true =>
            have H1:=I h1;cases h3:Op.bytesLess x.aa[j].name.toList x.aa[j+1].name.toList with
            | false =>obtain ⟨v,hv⟩:∃v,dY x x.aa[j+1] = v:=⟨_,rfl⟩;as_aux_lemma =>have hp:=nM (ok:=dY x) (less:=dQ) am (show dY x x.aa[j+1] = v by exact hv) (show dQ x.aa[j] x.aa[j+1] = false from h3);exact pA
            | true =>
              cases vl with
              | false =>
                as_aux_lemma =>
                 have hp:=nM (ok:=dY x) (less:=dQ) am (show dY x x.aa[j+1] = false by unfold dY;rw [hfo];simp) (show dQ x.aa[j] x.aa[j+1] = true from h3);exact pA
              | true =>
                by_cases ha:a<=x.aa[j+1].aw
                ·have Ez:decide (x.aa[j+1].aw < a) = false:=decide_eq_false J;by_cases hb:b2<=x.aa[j+1].mem
                 ·have EA:decide (x.aa[j+1].mem < b2) = false:=decide_eq_false J;by_cases hl:L<=x.aa[j+1].slots
                  ·have ga:decide (x.aa[j+1].slots < L) = false:=decide_eq_false J;as_aux_lemma =>
                    have hp:=nM (ok:=dY x) (less:=dQ) am (show dY x x.aa[j+1] = true by unfold dY;rw [h1,hfo];simp [ha,hb,hl]) (show dQ x.aa[j] x.aa[j+1] = true from h3);try simp only [Bool.and_false,Bool.and_true,Bool.false_and,Bool.and_self] at hp
                    have HN:=I (gq hall.out hp);clear hp;go_wp2_with (go_at_call 70;refine (iQ x _ _ x.aa[j+1].name _ (aJ h bc) Ji.out).mono ?_;rw [HU.out];rintro e w5 ⟨rfl,bj⟩;obtain ⟨j7,kD⟩:=ay bj;have Es:w.heap.size < w5.heap.size:=(sq bj.size);have IV:b' < w5.heap.size:=(sq bj.size);(try have iL:wr.heap.size < w5.heap.size:=(sq bj.size)))
                    clear q0 q1 q2 q3 q4 q5;refine aF _ U' U' (aj _) ?_
                    repeat ((first | refine aG J' ?_ | refine aH _ J' J0 ?_);simp only [Act.put,pz])
                    refine aN ?_;intro wn hn;replace hn:=hn.out;obtain ⟨km,ly⟩:=ay hn;have kn:w.heap.size < wn.heap.size:=sq hn.size;have ra:b' < wn.heap.size:=sq hn.size;try (have sc:wr.heap.size < wn.heap.size:=sq hn.size)
                    go_wp2;exact ⟨⟨j+1+1,J,N',HN.out,bc⟩,by simp [intOf];omega⟩
                  ·have ga:decide (x.aa[j+1].slots < L) = true:=decide_eq_true J;as_aux_lemma =>have hp:=nM (ok:=dY x) (less:=dQ) am (show dY x x.aa[j+1] = false by unfold dY;rw [h1,hfo];simp [ha,hb,hl]) (show dQ x.aa[j] x.aa[j+1] = true from h3);exact pA
                 ·have EA:decide (x.aa[j+1].mem < b2) = true:=decide_eq_true J;as_aux_lemma =>have hp:=nM (ok:=dY x) (less:=dQ) am (show dY x x.aa[j+1] = false by unfold dY;rw [h1,hfo];simp [ha,hb]) (show dQ x.aa[j] x.aa[j+1] = true from h3);exact pA
                ·have Ez:decide (x.aa[j+1].aw < a) = true:=decide_eq_true J;as_aux_lemma =>have hp:=nM (ok:=dY x) (less:=dQ) am (show dY x x.aa[j+1] = false by unfold dY;rw [h1,hfo];simp [ha]) (show dQ x.aa[j] x.aa[j+1] = true from h3);exact pA
        ·have bs:k = x.aa.length:=J;subst bs;have aqA:=I hall.out;clear hall;obtain ⟨wp,Ey⟩:∃wp,wp = wr:=⟨_,rfl⟩;subst Ey;have Pj:=ax;have hzp:w0.heap.size<=wp.heap.size:=ax.size;clear ax am;have JI:=(ay Pj).1;have cp0:=(JI _ _ cb).trans c0;have cp1:=(JI _ _ cb).trans c1;have cp2:=(JI _ _ cb).trans c2;have cp3:=(JI _ _ cb).trans c3;have cp4:=(JI _ _ cb).trans c4;have cp5:=(JI _ _ cb).trans c5;clear JI;have XY:w.heap.size < wp.heap.size:=J;have hmm:=@run_makeMap Tryz.prog;go_wp2_with fail
         go_loopw [97] (λi wr=>∃k:Nat,k<=x.O.length/\i = .int .i64 k/\Hid (∀j,j < k->rowAt (jT x) dw x.O j = true)/\Hid (∀j,j < k->DN x.O j = true)/\wr.ownsMap Tryz.prog 3 (plainElem Tryz.prog 4) wp.heap.size k (IY (x.O.take k))/\Below wp.heap.size wp wr) (λi _=>x.O.length - (intOf i).toNat)
         case atStart=>exact ⟨0,Nat.zero_le _,rfl,(λj hj=>by omega),(λj hj=>by omega),World.ownsMap_made _ _ _ _,ak (aj _) _⟩
         case round =>
          obtain ⟨k,hk,rfl,hall,hfresh,ar,U3⟩:=hrel;have ax:Below w0.heap.size w0 wr:=ah Pj U3;by_cases am:k < x.O.length
          ·obtain rfl | ⟨j,rfl⟩:k = 0∨∃j,k = j+1:=by cases k with | zero=>exact .inl rfl | succ j=>exact .inr ⟨j,rfl⟩
           ·obtain ⟨b,o,ck3,Fk3,rfl,aak,jd,ek,NW,cK⟩:=Sl.get (α:=ag) (A:=dn) (c:=bW) dM am;have CJ:=ek;obtain ⟨fC,fD,yD,gB,gG,AA,bT,bU,qI,JG,JH,Dv,yE,FY,FZ,Dw,AB,qJ,aeg,Wv⟩:=kE CJ;subst JG;obtain ⟨q0,q1,q2,q3,q4,q5,q6,q7,q8⟩:=oY 9 cK;clear cK CJ JH;simp only [Nat.zero_mul,Nat.add_zero] at q0 q1 q2 q3 q4 q5 q6 q7 q8;obtain ⟨yR,don,U4,Gon,hdc,hdG,kG,_⟩:=ek;have ku:rd w x.O[0].aS [.string x.O[0].aS.name,.slice fC x.O[0].aS.labels.length fD,.int .i64 x.O[0].aS.aw,.int .i64 x.O[0].aS.mem,.int .i64 x.O[0].aS.av,.slice gB x.O[0].aS.af.length gG,.slice bT x.O[0].aS.ae.length bU] U4:=by
             exact mE
            clear hdc hdG kG;have bu:Below w.heap.size w wr:=ah kd ax;have jZ:=(ay ax).1;replace c0:=(jZ _ _ cb).trans c0;replace c1:=(jZ _ _ cb).trans c1;replace c2:=(jZ _ _ cb).trans c2;replace c3:=(jZ _ _ cb).trans c3;replace c4:=(jZ _ _ cb).trans c4;replace c5:=(jZ _ _ cb).trans c5;clear jZ;replace q0:=r' bu q0 jd;replace q1:=r' bu q1 jd;replace q2:=r' bu q2 jd;replace q3:=r' bu q3 jd;replace q4:=r' bu q4 jd;replace q5:=r' bu q5 jd;replace q6:=r' bu q6 jd;replace q7:=r' bu q7 jd;replace q8:=r' bu q8 jd;have WU:b < wr.heap.size:=(by have:=bu.size;omega);have tX:w.heap.size < wr.heap.size:=(by have:=ax.size;omega);have Ue:=dM.Ec x.O[0] (List.getElem_mem ..);have XU:=Ue.1;have XV:=Ue.2;have df:=qq.out (0) am;have Iy:IntKind.i64.wrap (x.next - 1) = x.next - 1:=IntWalk.i64_in _ J;obtain ⟨sv,hsv⟩:∃sv,seenIn (x.O.take (0)) x.O[0].seq = sv:=⟨_,rfl⟩;have DO:=sG am;rw [hsv] at DO;have cD:=aeY (x.O.take (0)) x.O[0].seq Ue;rw [hsv] at cD;have uS:=I cD;clear cD;have NL:=I (show ∀wq,Below (wr.alloc (.cells #[.string x.O[0].aS.name,.slice fC x.O[0].aS.labels.length fD,.int .i64 x.O[0].aS.aw,.int .i64 x.O[0].aS.mem,.int .i64 x.O[0].aS.av,.slice gB x.O[0].aS.af.length gG,.slice bT x.O[0].aS.ae.length bU,.string x.O[0].on,.int .i64 x.O[0].seq] 48)).heap.size (wr.alloc (.cells #[.string x.O[0].aS.name,.slice fC x.O[0].aS.labels.length fD,.int .i64 x.O[0].aS.aw,.int .i64 x.O[0].aS.mem,.int .i64 x.O[0].aS.av,.slice gB x.O[0].aS.af.length gG,.slice bT x.O[0].aS.ae.length bU,.string x.O[0].on,.int .i64 x.O[0].seq] 48)) wq->(Instr.lookup 123 (.map (some wp.heap.size)) (.int .i64 x.O[0].seq) false).run Tryz.prog wq = .ok (.bool sv) wq from λwq hq=>NY ((ar.alloc _).kept (grown_of hq) S') Oy Tryz.underlying123 Tryz.underlying4 (abl wq) (Maps.keyOf_int_mk Tryz.underlying3 (WalkArith.wf_i64 Ue)) uS.out);obtain ⟨wi,hwi⟩:∃wi,(decide ((1:Int)<=x.O[0].seq)&&decide (x.O[0].seq<=x.next - 1)) = wi:=⟨_,rfl⟩;have LQ:=I hwi;cases h1:GU x.O[0].aS with
            | false =>have H1:=I h1;as_aux_lemma =>have hp:=pV (ok:=jT x) (less:=dw) am (show jT x x.O[0] = false by unfold jT;rw [h1];rfl);have HF:=I (jP am hp);clear hp;exact wg
            | true =>
              have H1:=I h1;cases sv with
              | true =>
                as_aux_lemma =>
                 have HF:=I (DR am DO);exact wg
              | false =>
                cases wi with
                | false =>
                  as_aux_lemma =>
                   have hp:=pV (ok:=jT x) (less:=dw) am (show jT x x.O[0] = false by unfold jT;rw [hwi];simp);have HF:=I (jP am hp);clear hp;exact wg
                | true =>
                  cases eI:(x.O[0].on.toList == []) with
                  | true =>have Hg:=I (show True from trivial);have OW:(x.O[0].on.toList != []) = false:=(by unfold bne;rw [eI];rfl);as_aux_lemma =>have hp:=pV (ok:=jT x) (less:=dw) am (show jT x x.O[0] = true by unfold jT;rw [h1,hwi,eI];rfl);exact NF
                  | false =>
                    have OW:(x.O[0].on.toList != []) = true:=(by unfold bne;rw [eI];rfl);rcases yg (iM x.O[0].on) x.aa with hi | ⟨iz,hiz,hi⟩
                    ·have Hg:=I hi;as_aux_lemma =>have hp:=pV (ok:=jT x) (less:=dw) am (show jT x x.O[0] = false by unfold jT;rw [hi,eI];simp);have HF:=I (jP am hp);clear hp hi;exact wg
                    ·have Hg:=I hi;have XW:decide ((iz:Int) < 0) = false:=decide_eq_false J;have Ex:jT x x.O[0] = true:=(by unfold jT;rw [h1,hwi,eI,hi];simp);clear hi;as_aux_lemma =>have hp:=pV (ok:=jT x) (less:=dw) am (show jT x x.O[0] = true by exact Ex);exact NF
           ·obtain ⟨b,o,ck3,Fk3,rfl,aak,jd,ek,NW,cK⟩:=Sl.get (α:=ag) (A:=dn) (c:=bW) dM am;have CJ:=ek;obtain ⟨fC,fD,yD,gB,gG,AA,bT,bU,qI,JG,JH,Dv,yE,FY,FZ,Dw,AB,qJ,aeg,Wv⟩:=kE CJ;subst JG;obtain ⟨q0,q1,q2,q3,q4,q5,q6,q7,q8⟩:=oY 9 cK;clear cK CJ JH;obtain ⟨b',o',ck4,Fk4,e,anJ,sZ,lN,afh,ej⟩:=Sl.get (α:=ag) (c:=bW) dM (show j < x.O.length by omega);have P9:=lN;obtain ⟨BK,BL,Q9,Ed,Ee,U5,uj,um,JD,aal,aam,YE,Fa,NZ,N7,J4,Hl,yF,alK,adB⟩:=kE P9;subst aal;obtain ⟨rfl,rfl⟩:b' = b/\o' = o:=by simpa using e.symm
            clear e;obtain ⟨p0,p1,p2,p3,p4,p5,p6,p7,p8⟩:=oY 9 ej;clear ej P9 aam;obtain ⟨yR,don,U4,Gon,hdc,hdG,kG,_⟩:=ek;have ku:rd w x.O[j+1].aS [.string x.O[j+1].aS.name,.slice fC x.O[j+1].aS.labels.length fD,.int .i64 x.O[j+1].aS.aw,.int .i64 x.O[j+1].aS.mem,.int .i64 x.O[j+1].aS.av,.slice gB x.O[j+1].aS.af.length gG,.slice bT x.O[j+1].aS.ae.length bU] U4:=by
             exact mE
            clear hdc hdG kG;have bu:Below w.heap.size w wr:=ah kd ax;have jZ:=(ay ax).1;replace c0:=(jZ _ _ cb).trans c0;replace c1:=(jZ _ _ cb).trans c1;replace c2:=(jZ _ _ cb).trans c2;replace c3:=(jZ _ _ cb).trans c3;replace c4:=(jZ _ _ cb).trans c4;replace c5:=(jZ _ _ cb).trans c5;clear jZ;replace q0:=r' bu q0 jd;replace q1:=r' bu q1 jd;replace q2:=r' bu q2 jd;replace q3:=r' bu q3 jd;replace q4:=r' bu q4 jd;replace q5:=r' bu q5 jd;replace q6:=r' bu q6 jd;replace q7:=r' bu q7 jd;replace q8:=r' bu q8 jd;replace p0:=r' bu p0 sZ;replace p1:=r' bu p1 sZ;replace p2:=r' bu p2 sZ;replace p3:=r' bu p3 sZ;replace p4:=r' bu p4 sZ;replace p5:=r' bu p5 sZ;replace p6:=r' bu p6 sZ;replace p7:=r' bu p7 sZ;replace p8:=r' bu p8 sZ;have WU:b' < wr.heap.size:=(by have:=bu.size;omega);have tX:w.heap.size < wr.heap.size:=(by have:=ax.size;omega);have Ue:=dM.Ec x.O[j+1] (List.getElem_mem ..);have XU:=Ue.1;have XV:=Ue.2;have df:=qq.out (j+1) am;have Iy:IntKind.i64.wrap (x.next - 1) = x.next - 1:=IntWalk.i64_in _ J;have qd:IntKind.i64.wrap (j:Int) = j:=IntWalk.i64_in _ J;have gp:j < x.O.length:=J;clear p1 p2 p3 p4 p5 p6 p7 p8 Fa Hl yF NZ N7 J4 alK adB;obtain ⟨sv,hsv⟩:∃sv,seenIn (x.O.take (j+1)) x.O[j+1].seq = sv:=⟨_,rfl⟩;have DO:=sG am;rw [hsv] at DO;have cD:=aeY (x.O.take (j+1)) x.O[j+1].seq Ue;rw [hsv] at cD;have uS:=I cD;clear cD;have NL:=I (show ∀wq,Below (wr.alloc (.cells #[.string x.O[j+1].aS.name,.slice fC x.O[j+1].aS.labels.length fD,.int .i64 x.O[j+1].aS.aw,.int .i64 x.O[j+1].aS.mem,.int .i64 x.O[j+1].aS.av,.slice gB x.O[j+1].aS.af.length gG,.slice bT x.O[j+1].aS.ae.length bU,.string x.O[j+1].on,.int .i64 x.O[j+1].seq] 48)).heap.size (wr.alloc (.cells #[.string x.O[j+1].aS.name,.slice fC x.O[j+1].aS.labels.length fD,.int .i64 x.O[j+1].aS.aw,.int .i64 x.O[j+1].aS.mem,.int .i64 x.O[j+1].aS.av,.slice gB x.O[j+1].aS.af.length gG,.slice bT x.O[j+1].aS.ae.length bU,.string x.O[j+1].on,.int .i64 x.O[j+1].seq] 48)) wq->(Instr.lookup 123 (.map (some wp.heap.size)) (.int .i64 x.O[j+1].seq) false).run Tryz.prog wq = .ok (.bool sv) wq from λwq hq=>NY ((ar.alloc _).kept (grown_of hq) S') Oy Tryz.underlying123 Tryz.underlying4 (abl wq) (Maps.keyOf_int_mk Tryz.underlying3 (WalkArith.wf_i64 Ue)) uS.out);obtain ⟨wi,hwi⟩:∃wi,(decide ((1:Int)<=x.O[j+1].seq)&&decide (x.O[j+1].seq<=x.next - 1)) = wi:=⟨_,rfl⟩;have LQ:=I hwi;cases h1:GU x.O[j+1].aS with
            | false =>have H1:=I h1;obtain ⟨u3,h3⟩:∃u,dw x.O[j] x.O[j+1] = u:=⟨_,rfl⟩;as_aux_lemma =>have hp:=nM (ok:=jT x) (less:=dw) am (show jT x x.O[j+1] = false by unfold jT;rw [h1];rfl) (show dw x.O[j] x.O[j+1] = u3 from h3);exact N6
            | true =>
              have H1:=I h1;cases h3:Op.bytesLess x.O[j].aS.name.toList x.O[j+1].aS.name.toList with
              | false =>
                as_aux_lemma =>
                 obtain ⟨v,hv⟩:∃v,jT x x.O[j+1] = v:=⟨_,rfl⟩;have hp:=nM (ok:=jT x) (less:=dw) am (show jT x x.O[j+1] = v by exact hv) (show dw x.O[j] x.O[j+1] = false from h3);try simp only [Bool.and_false,Bool.and_true,Bool.false_and,Bool.and_self] at hp
                 have HF:=I (jP am hp);clear hp hv;exact vW
              | true =>
                cases sv with
                | true =>
                  as_aux_lemma =>
                   have HF:=I (DR am DO);exact vW
                | false =>
                  cases wi with
                  | false =>
                    as_aux_lemma =>
                     have hp:=nM (ok:=jT x) (less:=dw) am (show jT x x.O[j+1] = false by unfold jT;rw [hwi];simp) (show dw x.O[j] x.O[j+1] = true from h3);exact N6
                  | true =>
                    cases eI:(x.O[j+1].on.toList == []) with
                    | true =>have Hg:=I (show True from trivial);have OW:(x.O[j+1].on.toList != []) = false:=(by unfold bne;rw [eI];rfl);as_aux_lemma =>have hp:=nM (ok:=jT x) (less:=dw) am (show jT x x.O[j+1] = true by unfold jT;rw [h1,hwi,eI];rfl) (show dw x.O[j] x.O[j+1] = true from h3);exact NE
                    | false =>
                      have OW:(x.O[j+1].on.toList != []) = true:=(by unfold bne;rw [eI];rfl);rcases yg (iM x.O[j+1].on) x.aa with hi | ⟨iz,hiz,hi⟩
                      ·have Hg:=I hi;as_aux_lemma =>
                        have hp:=nM (ok:=jT x) (less:=dw) am (show jT x x.O[j+1] = false by unfold jT;rw [hi,eI];simp) (show dw x.O[j] x.O[j+1] = true from h3);try simp only [Bool.and_false,Bool.and_true,Bool.false_and,Bool.and_self] at hp
                        have HF:=I (jP am hp);clear hp hi;exact vW
                      ·have Hg:=I hi;have XW:decide ((iz:Int) < 0) = false:=decide_eq_false J;have Ex:jT x x.O[j+1] = true:=(by unfold jT;rw [h1,hwi,eI,hi];simp);clear hi;as_aux_lemma =>have hp:=nM (ok:=jT x) (less:=dw) am (show jT x x.O[j+1] = true by exact Ex) (show dw x.O[j] x.O[j+1] = true from h3);exact NE
          ·have bs:k = x.O.length:=J;subst bs;have HF:=I (OX XT.out aqA.out hall.out hfresh.out);go_wp2;go_ret
           exact ⟨by rw [HF.out];rfl,ah kd ax⟩
  ·have HF:=I (oU (x:=x) avZ);exact wN
 ·have HF:=I (oU (x:=x) av1);exact wN
end Go.Proofs.YtjahcnjmjahbaaaGreat
