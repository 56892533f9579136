/- ClusterOk, of the program, where a cluster's parts are small. No condition. -/
import Derived.Test.YtdegaofigemegaaGreatMarkOn
namespace Go.Proofs.YtdegaofigemegaaGreat
open Go.ChangeShapes Go.WideShapes Go.ChangeAt Go.RowKit
set_option linter.unusedVariables false
set_option linter.unusedSimpArgs false
set_option maxHeartbeats 16000000
set_option maxRecDepth 100000
theorem aeh (x:aU) (cs:List Value) (F:List Nat) (w:World) (h:rd w x cs F) (bE:(x.O.length:Int)<=1048576) (vk:(x.M.length:Int)<=1048576) (Ol:∀y∈x.O,U6 y) (Om:∀y∈x.M,Xl y.aS) :
 Calls Tryz.prog 15 #[.agg cs.toArray] w λe w'=>e = .returned (.bool (iI x))/\Below w.heap.size w w':=by
 have On:=I (λk (hk:k < x.O.length)=>Ol x.O[k] (List.getElem_mem ..));have FA:=I (λk (hk:k < x.M.length)=>Om x.M[k] (List.getElem_mem ..));clear Ol Om;have hr:=h;obtain ⟨bG,bD,fQ,dn,bW,jg,ar,hF,bQ,dM,hnext,aV,aP,aW⟩:=aO hr;subst ar;clear hF hr;obtain ⟨w0,hw0⟩:∃w0,w.alloc (.cells #[.slice bG x.O.length bD,.slice dn x.M.length bW,.int .i64 x.next,.int .i64 x.weights.pack,.int .i64 x.weights.spread,.int .i64 x.weights.soft] 29) = w0:=⟨_,rfl⟩;have c0:w0.cell? ⟨w.heap.size,0,none⟩ = some (.slice bG x.O.length bD):=by rw [<- hw0,cell_of_row _ _ _ _ _ _ (heap_alloc_new w _)];rfl
 have c1:w0.cell? ⟨w.heap.size,1,none⟩ = some (.slice dn x.M.length bW):=by rw [<- hw0,cell_of_row _ _ _ _ _ _ (heap_alloc_new w _)];rfl
 have c2:w0.cell? ⟨w.heap.size,2,none⟩ = some (.int .i64 x.next):=by rw [<- hw0,cell_of_row _ _ _ _ _ _ (heap_alloc_new w _)];rfl
 have c3:w0.cell? ⟨w.heap.size,3,none⟩ = some (.int .i64 x.weights.pack):=by rw [<- hw0,cell_of_row _ _ _ _ _ _ (heap_alloc_new w _)];rfl
 have c4:w0.cell? ⟨w.heap.size,4,none⟩ = some (.int .i64 x.weights.spread):=by rw [<- hw0,cell_of_row _ _ _ _ _ _ (heap_alloc_new w _)];rfl
 have c5:w0.cell? ⟨w.heap.size,5,none⟩ = some (.int .i64 x.weights.soft):=by rw [<- hw0,cell_of_row _ _ _ _ _ _ (heap_alloc_new w _)];rfl
 have i6:Below w.heap.size w w0:=by rw [<- hw0];exact ak (aj _) _
 have bX:w.heap.size < w0.heap.size:=by rw [<- hw0];simp
 have oF:=I hw0;clear hw0;by_cases hh1:(x.O.length:Int)<=8
 ·by_cases hh2:(x.M.length:Int)<=12
  ·cases eh:(decide ((1:Int)<=x.next)&&decide (x.next<=1000000000)) with
   | false =>have Jf:=I eh;have HF:=I (oU (x:=x) avX);clear eh;exact ya
   | true =>
     have Jf:=I eh;cases ie:zL x.weights.pack x.weights.spread x.weights.soft with
     | false =>have Du:=I ie;have HF:=I (oU (x:=x) avY);clear eh ie;exact ya
     | true =>
       have Du:=I ie;have VK:=I (show Em x = true by unfold Em;rw [eh,ie];simp [hh1,hh2]);have zp:1<=x.next/\x.next<=1000000000:=(by simpa using eh);obtain ⟨zp,yX⟩:=zp;clear eh ie;go_enter Tryz.func15,Tryz.ntmps15;go_wp2_with fail
       rw [oF.out]
       go_wp2_with (first
        | (go_at_call 31;refine (jc x.next 1 1000000000 _).mono ?_;rw [Jf.out];rintro e w1 ⟨rfl,mH⟩;simp only [<- mH];clear mH w1)
        | (go_at_call 32;refine (pU x.weights.pack x.weights.spread x.weights.soft _).mono ?_;rw [Du.out];rintro e w2 ⟨rfl,am⟩;obtain ⟨bM,cB⟩:=ay am;have ca:w.heap.size < w2.heap.size:=(sq am.size)))
       have Ji:=I vk;have NV:=I bE;have abk:x.M.length<=12:=J;go_wp2_with fail
       go_loopw [37] (λi wr=>∃k:Nat,k<=x.O.length/\i = .int .i64 k/\Hid (∀j,j < k->rowAt (dY x) dQ x.O j = true)/\Below w0.heap.size w0 wr) (λi _=>x.O.length - (intOf i).toNat)
       case atStart=>exact ⟨0,Nat.zero_le _,rfl,(λj hj=>by omega),am⟩
       case round =>
        obtain ⟨k,hk,rfl,hall,aM⟩:=hrel;by_cases ap:k < x.O.length
        ·obtain rfl | ⟨j,rfl⟩:k = 0∨∃j,k = j+1:=by cases k with | zero=>exact .inl rfl | succ j=>exact .inr ⟨j,rfl⟩
         ·obtain ⟨b,o,ck3,Fk3,rfl,aak,jd,gO,NW,cw⟩:=Sl.get (α:=ba) (A:=bG) (c:=bD) bQ ap;have CJ:=gO;obtain ⟨jM,jO,sN,jE,jF,sO,JG,JH,zM,qY,Gt,Gw,xg,qA⟩:=iy CJ;subst JG;obtain ⟨q0,q1,q2,q3,q4,q5⟩:=ss 6 cw;clear cw CJ JH;simp only [Nat.zero_mul,Nat.add_zero] at q0 q1 q2 q3 q4 q5;have bF:Below w.heap.size w wr:=ah i6 aM;have jZ:=(ay aM).1;replace c0:=(jZ _ _ bX).trans c0;replace c1:=(jZ _ _ bX).trans c1;replace c2:=(jZ _ _ bX).trans c2;replace c3:=(jZ _ _ bX).trans c3;replace c4:=(jZ _ _ bX).trans c4;replace c5:=(jZ _ _ bX).trans c5;clear jZ;replace q0:=r' bF q0 jd;replace q1:=r' bF q1 jd;replace q2:=r' bF q2 jd;replace q3:=r' bF q3 jd;replace q4:=r' bF q4 jd;replace q5:=r' bF q5 jd;have WU:b < wr.heap.size:=(by have:=bF.size;omega);have tX:w.heap.size < wr.heap.size:=(by have:=aM.size;omega);have cV:=On.out (0) ap;obtain ⟨a,b2,L,xu,hus,hfo,hL0,rh⟩:=E8 x x.O[0];have HU:=I hus;clear hus;have Ix:L<=12:=J;cases h1:Aj x.O[0] with
          | false =>have H1:=I h1;as_aux_lemma =>have hp:=pV (ok:=dY x) (less:=dQ) ap (show dY x x.O[0] = false by unfold dY;rw [h1];rfl);exact tS
          | true =>
            have H1:=I h1;cases xu with
            | false =>
              as_aux_lemma =>
               have hp:=pV (ok:=dY x) (less:=dQ) ap (show dY x x.O[0] = false by unfold dY;rw [hfo];simp);exact tS
            | true =>
              by_cases ha:a<=x.O[0].aq
              ·have FC:decide (x.O[0].aq < a) = false:=decide_eq_false J;by_cases hb:b2<=x.O[0].mem
               ·have FD:decide (x.O[0].mem < b2) = false:=decide_eq_false J;by_cases hl:L<=x.O[0].slots
                ·have cM:decide (x.O[0].slots < L) = false:=decide_eq_false J;as_aux_lemma =>
                  have hp:=pV (ok:=dY x) (less:=dQ) ap (show dY x x.O[0] = true by unfold dY;rw [h1,hfo];simp [ha,hb,hl]);have HN:=I (gq hall.out hp);clear hp;go_wp2_with (go_at_call 33;refine (iQ x _ _ x.O[0].name _ (aJ h bJ) Ji.out).mono ?_;rw [HU.out];rintro e w5 ⟨rfl,bu⟩;obtain ⟨pA,ow⟩:=ay bu;have Es:w.heap.size < w5.heap.size:=(sq bu.size);have IV:b < w5.heap.size:=(sq bu.size);(try have xb:wr.heap.size < w5.heap.size:=(sq bu.size)))
                  clear q0 q1 q2 q3 q4 q5;refine aF _ U' U' (aj _) ?_
                  repeat ((first | refine aG J' ?_ | refine aH _ J' JQ ?_);simp only [Act.put,pz])
                  refine aN ?_;intro wn hn;replace hn:=hn.out;obtain ⟨kq,mZ⟩:=ay hn;have kr:w.heap.size < wn.heap.size:=sq hn.size;have te:b < wn.heap.size:=sq hn.size;try (have tT:wr.heap.size < wn.heap.size:=sq hn.size)
                  go_wp2;exact ⟨⟨0+1,J,N',HN.out,bJ⟩,by simp [intOf];omega⟩
                ·have cM:decide (x.O[0].slots < L) = true:=decide_eq_true J;as_aux_lemma =>have hp:=pV (ok:=dY x) (less:=dQ) ap (show dY x x.O[0] = false by unfold dY;rw [h1,hfo];simp [ha,hb,hl]);exact tS
               ·have FD:decide (x.O[0].mem < b2) = true:=decide_eq_true J;as_aux_lemma =>have hp:=pV (ok:=dY x) (less:=dQ) ap (show dY x x.O[0] = false by unfold dY;rw [h1,hfo];simp [ha,hb]);exact tS
              ·have FC:decide (x.O[0].aq < a) = true:=decide_eq_true J;as_aux_lemma =>have hp:=pV (ok:=dY x) (less:=dQ) ap (show dY x x.O[0] = false by unfold dY;rw [h1,hfo];simp [ha]);exact tS
         ·obtain ⟨b,o,ck3,Fk3,rfl,aak,jd,gO,NW,cw⟩:=Sl.get (α:=ba) (A:=bG) (c:=bD) bQ ap;have CJ:=gO;obtain ⟨jM,jO,sN,jE,jF,sO,JG,JH,zM,qY,Gt,Gw,xg,qA⟩:=iy CJ;subst JG;obtain ⟨q0,q1,q2,q3,q4,q5⟩:=ss 6 cw;clear cw CJ JH;obtain ⟨b',o',ck4,Fk4,e,anJ,sZ,uL,afh,ee⟩:=Sl.get (α:=ba) (c:=bD) bQ (show j < x.O.length by omega);have P9:=uL;obtain ⟨vS,vT,Bc,Jj,Jk,Xk,aal,aam,IZ,wL,JY,JZ,OV,KE⟩:=iy P9;subst aal;obtain ⟨rfl,rfl⟩:b' = b/\o' = o:=by simpa using e.symm
          clear e;obtain ⟨p0,p1,p2,p3,p4,p5⟩:=ss 6 ee;clear ee P9 aam;have bF:Below w.heap.size w wr:=ah i6 aM;have jZ:=(ay aM).1;replace c0:=(jZ _ _ bX).trans c0;replace c1:=(jZ _ _ bX).trans c1;replace c2:=(jZ _ _ bX).trans c2;replace c3:=(jZ _ _ bX).trans c3;replace c4:=(jZ _ _ bX).trans c4;replace c5:=(jZ _ _ bX).trans c5;clear jZ;replace q0:=r' bF q0 jd;replace q1:=r' bF q1 jd;replace q2:=r' bF q2 jd;replace q3:=r' bF q3 jd;replace q4:=r' bF q4 jd;replace q5:=r' bF q5 jd;replace p0:=r' bF p0 sZ;replace p1:=r' bF p1 sZ;replace p2:=r' bF p2 sZ;replace p3:=r' bF p3 sZ;replace p4:=r' bF p4 sZ;replace p5:=r' bF p5 sZ;have WU:b' < wr.heap.size:=(by have:=bF.size;omega);have tX:w.heap.size < wr.heap.size:=(by have:=aM.size;omega);have cV:=On.out (j+1) ap;have rE:IntKind.i64.wrap (j:Int) = j:=IntWalk.i64_in _ J;have jH:j < x.O.length:=J;clear p1 p2 p3 p4 p5 wL KE JY JZ OV;obtain ⟨a,b2,L,xu,hus,hfo,hL0,rh⟩:=E8 x x.O[j+1];have HU:=I hus;clear hus;have Ix:L<=12:=J;cases h1:Aj x.O[j+1] with
          | false =>have H1:=I h1;obtain ⟨u3,h3⟩:∃u,dQ x.O[j] x.O[j+1] = u:=⟨_,rfl⟩;as_aux_lemma =>have hp:=nM (ok:=dY x) (less:=dQ) ap (show dY x x.O[j+1] = false by unfold dY;rw [h1];rfl) (show dQ x.O[j] x.O[j+1] = u3 from h3);exact se
          | true =>
            have H1:=I h1;cases h3:Op.bytesLess x.O[j].name.toList x.O[j+1].name.toList with
            | false =>obtain ⟨v,hv⟩:∃v,dY x x.O[j+1] = v:=⟨_,rfl⟩;as_aux_lemma =>have hp:=nM (ok:=dY x) (less:=dQ) ap (show dY x x.O[j+1] = v by exact hv) (show dQ x.O[j] x.O[j+1] = false from h3);exact se
            | true =>
              cases xu with
              | false =>
                as_aux_lemma =>
                 have hp:=nM (ok:=dY x) (less:=dQ) ap (show dY x x.O[j+1] = false by unfold dY;rw [hfo];simp) (show dQ x.O[j] x.O[j+1] = true from h3);exact se
              | true =>
                by_cases ha:a<=x.O[j+1].aq
                ·have FC:decide (x.O[j+1].aq < a) = false:=decide_eq_false J;by_cases hb:b2<=x.O[j+1].mem
                 ·have FD:decide (x.O[j+1].mem < b2) = false:=decide_eq_false J;by_cases hl:L<=x.O[j+1].slots
                  ·have cM:decide (x.O[j+1].slots < L) = false:=decide_eq_false J;as_aux_lemma =>
                    have hp:=nM (ok:=dY x) (less:=dQ) ap (show dY x x.O[j+1] = true by unfold dY;rw [h1,hfo];simp [ha,hb,hl]) (show dQ x.O[j] x.O[j+1] = true from h3);try simp only [Bool.and_false,Bool.and_true,Bool.false_and,Bool.and_self] at hp
                    have HN:=I (gq hall.out hp);clear hp;go_wp2_with (go_at_call 33;refine (iQ x _ _ x.O[j+1].name _ (aJ h bJ) Ji.out).mono ?_;rw [HU.out];rintro e w5 ⟨rfl,bu⟩;obtain ⟨pA,ow⟩:=ay bu;have Es:w.heap.size < w5.heap.size:=(sq bu.size);have IV:b' < w5.heap.size:=(sq bu.size);(try have xb:wr.heap.size < w5.heap.size:=(sq bu.size)))
                    clear q0 q1 q2 q3 q4 q5;refine aF _ U' U' (aj _) ?_
                    repeat ((first | refine aG J' ?_ | refine aH _ J' Jt ?_);simp only [Act.put,pz])
                    refine aN ?_;intro wn hn;replace hn:=hn.out;obtain ⟨kq,mZ⟩:=ay hn;have kr:w.heap.size < wn.heap.size:=sq hn.size;have te:b' < wn.heap.size:=sq hn.size;try (have tT:wr.heap.size < wn.heap.size:=sq hn.size)
                    go_wp2;exact ⟨⟨j+1+1,J,N',HN.out,bJ⟩,by simp [intOf];omega⟩
                  ·have cM:decide (x.O[j+1].slots < L) = true:=decide_eq_true J;as_aux_lemma =>have hp:=nM (ok:=dY x) (less:=dQ) ap (show dY x x.O[j+1] = false by unfold dY;rw [h1,hfo];simp [ha,hb,hl]) (show dQ x.O[j] x.O[j+1] = true from h3);exact se
                 ·have FD:decide (x.O[j+1].mem < b2) = true:=decide_eq_true J;as_aux_lemma =>have hp:=nM (ok:=dY x) (less:=dQ) ap (show dY x x.O[j+1] = false by unfold dY;rw [h1,hfo];simp [ha,hb]) (show dQ x.O[j] x.O[j+1] = true from h3);exact se
                ·have FC:decide (x.O[j+1].aq < a) = true:=decide_eq_true J;as_aux_lemma =>have hp:=nM (ok:=dY x) (less:=dQ) ap (show dY x x.O[j+1] = false by unfold dY;rw [h1,hfo];simp [ha]) (show dQ x.O[j] x.O[j+1] = true from h3);exact se
        ·have bz:k = x.O.length:=J;subst bz;have aqA:=I hall.out;clear hall;obtain ⟨wp,FB⟩:∃wp,wp = wr:=⟨_,rfl⟩;subst FB;have Oo:=aM;have hzp:w0.heap.size<=wp.heap.size:=aM.size;clear aM ap;have JI:=(ay Oo).1;have cp0:=(JI _ _ bX).trans c0;have cp1:=(JI _ _ bX).trans c1;have cp2:=(JI _ _ bX).trans c2;have cp3:=(JI _ _ bX).trans c3;have cp4:=(JI _ _ bX).trans c4;have cp5:=(JI _ _ bX).trans c5;clear JI;have VO:w.heap.size < wp.heap.size:=J;have Pc:=@run_makeMap Tryz.prog;go_wp2_with fail
         go_loopw [97] (λi wr=>∃k:Nat,k<=x.M.length/\i = .int .i64 k/\Hid (∀j,j < k->rowAt (jT x) dw x.M j = true)/\Hid (∀j,j < k->DN x.M j = true)/\wr.ownsMap Tryz.prog 3 (plainElem Tryz.prog 4) wp.heap.size k (II (x.M.take k))/\Below wp.heap.size wp wr) (λi _=>x.M.length - (intOf i).toNat)
         case atStart=>exact ⟨0,Nat.zero_le _,rfl,(λj hj=>by omega),(λj hj=>by omega),World.ownsMap_made _ _ _ _,ak (aj _) _⟩
         case round =>
          obtain ⟨k,hk,rfl,hall,hfresh,aw,U3⟩:=hrel;have aM:Below w0.heap.size w0 wr:=ah Oo U3;by_cases ap:k < x.M.length
          ·obtain rfl | ⟨j,rfl⟩:k = 0∨∃j,k = j+1:=by cases k with | zero=>exact .inl rfl | succ j=>exact .inr ⟨j,rfl⟩
           ·obtain ⟨b,o,ck3,Fk3,rfl,aak,jd,gO,NW,cw⟩:=Sl.get (α:=ag) (A:=dn) (c:=bW) dM ap;have CJ:=gO;obtain ⟨fC,fD,yD,gB,gG,AA,bT,bU,qI,JG,JH,Dv,yE,FY,FZ,Dw,AB,qJ,aeg,Wv⟩:=kE CJ;subst JG;obtain ⟨q0,q1,q2,q3,q4,q5,q6,q7,q8⟩:=uu 9 cw;clear cw CJ JH;simp only [Nat.zero_mul,Nat.add_zero] at q0 q1 q2 q3 q4 q5 q6 q7 q8;obtain ⟨yR,don,U4,Gon,hdc,hdG,kG,_⟩:=gO;have ku:rd w x.M[0].aS [.string x.M[0].aS.name,.slice fC x.M[0].aS.labels.length fD,.int .i64 x.M[0].aS.aq,.int .i64 x.M[0].aS.mem,.int .i64 x.M[0].aS.av,.slice gB x.M[0].aS.af.length gG,.slice bT x.M[0].aS.ae.length bU] U4:=by
             exact yf
            clear hdc hdG kG;have bF:Below w.heap.size w wr:=ah i6 aM;have jZ:=(ay aM).1;replace c0:=(jZ _ _ bX).trans c0;replace c1:=(jZ _ _ bX).trans c1;replace c2:=(jZ _ _ bX).trans c2;replace c3:=(jZ _ _ bX).trans c3;replace c4:=(jZ _ _ bX).trans c4;replace c5:=(jZ _ _ bX).trans c5;clear jZ;replace q0:=r' bF q0 jd;replace q1:=r' bF q1 jd;replace q2:=r' bF q2 jd;replace q3:=r' bF q3 jd;replace q4:=r' bF q4 jd;replace q5:=r' bF q5 jd;replace q6:=r' bF q6 jd;replace q7:=r' bF q7 jd;replace q8:=r' bF q8 jd;have WU:b < wr.heap.size:=(by have:=bF.size;omega);have tX:w.heap.size < wr.heap.size:=(by have:=aM.size;omega);have Ue:=dM.Ec x.M[0] (List.getElem_mem ..);have VL:=Ue.1;have VM:=Ue.2;have cV:=FA.out (0) ap;have xw:IntKind.i64.wrap (x.next - 1) = x.next - 1:=IntWalk.i64_in _ J;obtain ⟨sv,sA⟩:∃sv,seenIn (x.M.take (0)) x.M[0].seq = sv:=⟨_,rfl⟩;have Eu:=sG ap;rw [sA] at Eu;have cF:=aeY (x.M.take (0)) x.M[0].seq Ue;rw [sA] at cF;have xi:=I cF;clear cF;have M9:=I (show ∀wq,Below (wr.alloc (.cells #[.string x.M[0].aS.name,.slice fC x.M[0].aS.labels.length fD,.int .i64 x.M[0].aS.aq,.int .i64 x.M[0].aS.mem,.int .i64 x.M[0].aS.av,.slice gB x.M[0].aS.af.length gG,.slice bT x.M[0].aS.ae.length bU,.string x.M[0].on,.int .i64 x.M[0].seq] 47)).heap.size (wr.alloc (.cells #[.string x.M[0].aS.name,.slice fC x.M[0].aS.labels.length fD,.int .i64 x.M[0].aS.aq,.int .i64 x.M[0].aS.mem,.int .i64 x.M[0].aS.av,.slice gB x.M[0].aS.af.length gG,.slice bT x.M[0].aS.ae.length bU,.string x.M[0].on,.int .i64 x.M[0].seq] 47)) wq->(Instr.lookup 75 (.map (some wp.heap.size)) (.int .i64 x.M[0].seq) false).run Tryz.prog wq = .ok (.bool sv) wq from λwq hq=>NY ((aw.alloc _).kept (grown_of hq) S') Oy Tryz.underlying75 Tryz.underlying4 (abl wq) (Maps.keyOf_int_mk Tryz.underlying3 (WalkArith.wf_i64 Ue)) xi.out);obtain ⟨wi,hwi⟩:∃wi,(decide ((1:Int)<=x.M[0].seq)&&decide (x.M[0].seq<=x.next - 1)) = wi:=⟨_,rfl⟩;have LQ:=I hwi;cases h1:GU x.M[0].aS with
            | false =>have H1:=I h1;as_aux_lemma =>have hp:=pV (ok:=jT x) (less:=dw) ap (show jT x x.M[0] = false by unfold jT;rw [h1];rfl);have HF:=I (jP ap hp);clear hp;exact xZ
            | true =>
              have H1:=I h1;cases sv with
              | true =>
                as_aux_lemma =>
                 have HF:=I (DR ap Eu);exact xZ
              | false =>
                cases wi with
                | false =>
                  as_aux_lemma =>
                   have hp:=pV (ok:=jT x) (less:=dw) ap (show jT x x.M[0] = false by unfold jT;rw [hwi];simp);have HF:=I (jP ap hp);clear hp;exact xZ
                | true =>
                  cases eC:(x.M[0].on.toList == []) with
                  | true =>have Hg:=I (show True from trivial);have OW:(x.M[0].on.toList != []) = false:=(by unfold bne;rw [eC];rfl);as_aux_lemma =>have hp:=pV (ok:=jT x) (less:=dw) ap (show jT x x.M[0] = true by unfold jT;rw [h1,hwi,eC];rfl);exact M3
                  | false =>
                    have OW:(x.M[0].on.toList != []) = true:=(by unfold bne;rw [eC];rfl);rcases yg (iM x.M[0].on) x.O with hi | ⟨iz,hiz,hi⟩
                    ·have Hg:=I hi;as_aux_lemma =>have hp:=pV (ok:=jT x) (less:=dw) ap (show jT x x.M[0] = false by unfold jT;rw [hi,eC];simp);have HF:=I (jP ap hp);clear hp hi;exact xZ
                    ·have Hg:=I hi;have VN:decide ((iz:Int) < 0) = false:=decide_eq_false J;have tN:jT x x.M[0] = true:=(by unfold jT;rw [h1,hwi,eC,hi];simp);clear hi;as_aux_lemma =>have hp:=pV (ok:=jT x) (less:=dw) ap (show jT x x.M[0] = true by exact tN);exact M3
           ·obtain ⟨b,o,ck3,Fk3,rfl,aak,jd,gO,NW,cw⟩:=Sl.get (α:=ag) (A:=dn) (c:=bW) dM ap;have CJ:=gO;obtain ⟨fC,fD,yD,gB,gG,AA,bT,bU,qI,JG,JH,Dv,yE,FY,FZ,Dw,AB,qJ,aeg,Wv⟩:=kE CJ;subst JG;obtain ⟨q0,q1,q2,q3,q4,q5,q6,q7,q8⟩:=uu 9 cw;clear cw CJ JH;obtain ⟨b',o',ck4,Fk4,e,anJ,sZ,uL,afh,ee⟩:=Sl.get (α:=ag) (c:=bW) dM (show j < x.M.length by omega);have P9:=uL;obtain ⟨BK,BL,Q9,Ed,Ee,U5,uj,um,JD,aal,aam,YE,Fa,NZ,N7,J4,Hl,yF,alK,adB⟩:=kE P9;subst aal;obtain ⟨rfl,rfl⟩:b' = b/\o' = o:=by simpa using e.symm
            clear e;obtain ⟨p0,p1,p2,p3,p4,p5,p6,p7,p8⟩:=uu 9 ee;clear ee P9 aam;obtain ⟨yR,don,U4,Gon,hdc,hdG,kG,_⟩:=gO;have ku:rd w x.M[j+1].aS [.string x.M[j+1].aS.name,.slice fC x.M[j+1].aS.labels.length fD,.int .i64 x.M[j+1].aS.aq,.int .i64 x.M[j+1].aS.mem,.int .i64 x.M[j+1].aS.av,.slice gB x.M[j+1].aS.af.length gG,.slice bT x.M[j+1].aS.ae.length bU] U4:=by
             exact yf
            clear hdc hdG kG;have bF:Below w.heap.size w wr:=ah i6 aM;have jZ:=(ay aM).1;replace c0:=(jZ _ _ bX).trans c0;replace c1:=(jZ _ _ bX).trans c1;replace c2:=(jZ _ _ bX).trans c2;replace c3:=(jZ _ _ bX).trans c3;replace c4:=(jZ _ _ bX).trans c4;replace c5:=(jZ _ _ bX).trans c5;clear jZ;replace q0:=r' bF q0 jd;replace q1:=r' bF q1 jd;replace q2:=r' bF q2 jd;replace q3:=r' bF q3 jd;replace q4:=r' bF q4 jd;replace q5:=r' bF q5 jd;replace q6:=r' bF q6 jd;replace q7:=r' bF q7 jd;replace q8:=r' bF q8 jd;replace p0:=r' bF p0 sZ;replace p1:=r' bF p1 sZ;replace p2:=r' bF p2 sZ;replace p3:=r' bF p3 sZ;replace p4:=r' bF p4 sZ;replace p5:=r' bF p5 sZ;replace p6:=r' bF p6 sZ;replace p7:=r' bF p7 sZ;replace p8:=r' bF p8 sZ;have WU:b' < wr.heap.size:=(by have:=bF.size;omega);have tX:w.heap.size < wr.heap.size:=(by have:=aM.size;omega);have Ue:=dM.Ec x.M[j+1] (List.getElem_mem ..);have VL:=Ue.1;have VM:=Ue.2;have cV:=FA.out (j+1) ap;have xw:IntKind.i64.wrap (x.next - 1) = x.next - 1:=IntWalk.i64_in _ J;have rE:IntKind.i64.wrap (j:Int) = j:=IntWalk.i64_in _ J;have jH:j < x.M.length:=J;clear p1 p2 p3 p4 p5 p6 p7 p8 Fa Hl yF NZ N7 J4 alK adB;obtain ⟨sv,sA⟩:∃sv,seenIn (x.M.take (j+1)) x.M[j+1].seq = sv:=⟨_,rfl⟩;have Eu:=sG ap;rw [sA] at Eu;have cF:=aeY (x.M.take (j+1)) x.M[j+1].seq Ue;rw [sA] at cF;have xi:=I cF;clear cF;have M9:=I (show ∀wq,Below (wr.alloc (.cells #[.string x.M[j+1].aS.name,.slice fC x.M[j+1].aS.labels.length fD,.int .i64 x.M[j+1].aS.aq,.int .i64 x.M[j+1].aS.mem,.int .i64 x.M[j+1].aS.av,.slice gB x.M[j+1].aS.af.length gG,.slice bT x.M[j+1].aS.ae.length bU,.string x.M[j+1].on,.int .i64 x.M[j+1].seq] 47)).heap.size (wr.alloc (.cells #[.string x.M[j+1].aS.name,.slice fC x.M[j+1].aS.labels.length fD,.int .i64 x.M[j+1].aS.aq,.int .i64 x.M[j+1].aS.mem,.int .i64 x.M[j+1].aS.av,.slice gB x.M[j+1].aS.af.length gG,.slice bT x.M[j+1].aS.ae.length bU,.string x.M[j+1].on,.int .i64 x.M[j+1].seq] 47)) wq->(Instr.lookup 75 (.map (some wp.heap.size)) (.int .i64 x.M[j+1].seq) false).run Tryz.prog wq = .ok (.bool sv) wq from λwq hq=>NY ((aw.alloc _).kept (grown_of hq) S') Oy Tryz.underlying75 Tryz.underlying4 (abl wq) (Maps.keyOf_int_mk Tryz.underlying3 (WalkArith.wf_i64 Ue)) xi.out);obtain ⟨wi,hwi⟩:∃wi,(decide ((1:Int)<=x.M[j+1].seq)&&decide (x.M[j+1].seq<=x.next - 1)) = wi:=⟨_,rfl⟩;have LQ:=I hwi;cases h1:GU x.M[j+1].aS with
            | false =>have H1:=I h1;obtain ⟨u3,h3⟩:∃u,dw x.M[j] x.M[j+1] = u:=⟨_,rfl⟩;as_aux_lemma =>have hp:=nM (ok:=jT x) (less:=dw) ap (show jT x x.M[j+1] = false by unfold jT;rw [h1];rfl) (show dw x.M[j] x.M[j+1] = u3 from h3);exact Ns
            | true =>
              have H1:=I h1;cases h3:Op.bytesLess x.M[j].aS.name.toList x.M[j+1].aS.name.toList with
              | false =>
                as_aux_lemma =>
                 obtain ⟨v,hv⟩:∃v,jT x x.M[j+1] = v:=⟨_,rfl⟩;have hp:=nM (ok:=jT x) (less:=dw) ap (show jT x x.M[j+1] = v by exact hv) (show dw x.M[j] x.M[j+1] = false from h3);try simp only [Bool.and_false,Bool.and_true,Bool.false_and,Bool.and_self] at hp
                 have HF:=I (jP ap hp);clear hp hv;exact xV
              | true =>
                cases sv with
                | true =>
                  as_aux_lemma =>
                   have HF:=I (DR ap Eu);exact xV
                | false =>
                  cases wi with
                  | false =>
                    as_aux_lemma =>
                     have hp:=nM (ok:=jT x) (less:=dw) ap (show jT x x.M[j+1] = false by unfold jT;rw [hwi];simp) (show dw x.M[j] x.M[j+1] = true from h3);exact Ns
                  | true =>
                    cases eC:(x.M[j+1].on.toList == []) with
                    | true =>have Hg:=I (show True from trivial);have OW:(x.M[j+1].on.toList != []) = false:=(by unfold bne;rw [eC];rfl);as_aux_lemma =>have hp:=nM (ok:=jT x) (less:=dw) ap (show jT x x.M[j+1] = true by unfold jT;rw [h1,hwi,eC];rfl) (show dw x.M[j] x.M[j+1] = true from h3);exact M2
                    | false =>
                      have OW:(x.M[j+1].on.toList != []) = true:=(by unfold bne;rw [eC];rfl);rcases yg (iM x.M[j+1].on) x.O with hi | ⟨iz,hiz,hi⟩
                      ·have Hg:=I hi;as_aux_lemma =>
                        have hp:=nM (ok:=jT x) (less:=dw) ap (show jT x x.M[j+1] = false by unfold jT;rw [hi,eC];simp) (show dw x.M[j] x.M[j+1] = true from h3);try simp only [Bool.and_false,Bool.and_true,Bool.false_and,Bool.and_self] at hp
                        have HF:=I (jP ap hp);clear hp hi;exact xV
                      ·have Hg:=I hi;have VN:decide ((iz:Int) < 0) = false:=decide_eq_false J;have tN:jT x x.M[j+1] = true:=(by unfold jT;rw [h1,hwi,eC,hi];simp);clear hi;as_aux_lemma =>have hp:=nM (ok:=jT x) (less:=dw) ap (show jT x x.M[j+1] = true by exact tN) (show dw x.M[j] x.M[j+1] = true from h3);exact M2
          ·have bz:k = x.M.length:=J;subst bz;have HF:=I (OX VK.out aqA.out hall.out hfresh.out);go_wp2;go_ret
           exact ⟨by rw [HF.out];rfl,ah i6 aM⟩
  ·have HF:=I (oU (x:=x) avZ);exact ya
 ·have HF:=I (oU (x:=x) av1);exact ya
end Go.Proofs.YtdegaofigemegaaGreat
