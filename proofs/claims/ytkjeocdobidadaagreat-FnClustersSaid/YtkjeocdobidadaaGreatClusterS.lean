/- ClusterOk, of the reference. No condition. -/
import Derived.Test.YtkjeocdobidadaaGreatClusterP
import Derived.Test.YtkjeocdobidadaaGreatKit
namespace Go.Proofs.YtkjeocdobidadaaGreat
open Go.ChangeShapes Go.WideShapes Go.ChangeAt Go.RowKit
set_option linter.unusedVariables false
set_option linter.unusedSimpArgs false
set_option maxHeartbeats 16000000
set_option maxRecDepth 100000
theorem qM (x:aU) (cs:List Value) (F:List Nat) (w:World) (h:rd w x cs F) (hw:(x.wt:Int)≤1048576) :
 Calls Tryz.prog 33 #[.agg cs.toArray] w fun e w'=>e = .returned (.bool (iI x))∧Below w.heap.size w w':=by
 have hwx:x.wt = kL Host.wt x.hosts+kL Placed.wt x.au:=rfl;have hlen:(x.hosts.length:Int)≤1048576:=by have:=gJ Host.wt x.hosts;omega
 have vk:(x.au.length:Int)≤1048576:=by have:=gJ Placed.wt x.au;omega
 have HWH:=I' (fun k (hk:k < x.hosts.length)=>(show (Host.wt x.hosts[k]:Int)≤1048576 by have:=rM (f:=Host.wt) hk;omega));have HWQ:=I' (fun k (hk:k < x.au.length)=>(show (nI.wt x.au[k].aS:Int)≤1048576 by have:=rM (f:=Placed.wt) hk;have e:Placed.wt x.au[k] = nI.wt x.au[k].aS+x.au[k].on.size:=rfl;omega));clear hw hwx;have hr:=h;obtain ⟨bG,bD,fQ,dn,bW,jg,hck,hF,bQ,dM,hnext,aV,aP,aW⟩:=aO hr;subst hck;clear hF hr;obtain ⟨w0,hw0⟩:∃w0,w.alloc (.cells #[.slice bG x.hosts.length bD,.slice dn x.au.length bW,.int .i64 x.next,.int .i64 x.weights.pack,.int .i64 x.weights.spread,.int .i64 x.weights.soft] 29) = w0:=⟨_,rfl⟩;have c0:w0.cell? ⟨w.heap.size,0,none⟩ = some (.slice bG x.hosts.length bD):=by rw [← hw0,cell_of_row _ _ _ _ _ _ (heap_alloc_new w _)];rfl
 have c1:w0.cell? ⟨w.heap.size,1,none⟩ = some (.slice dn x.au.length bW):=by rw [← hw0,cell_of_row _ _ _ _ _ _ (heap_alloc_new w _)];rfl
 have c2:w0.cell? ⟨w.heap.size,2,none⟩ = some (.int .i64 x.next):=by rw [← hw0,cell_of_row _ _ _ _ _ _ (heap_alloc_new w _)];rfl
 have c3:w0.cell? ⟨w.heap.size,3,none⟩ = some (.int .i64 x.weights.pack):=by rw [← hw0,cell_of_row _ _ _ _ _ _ (heap_alloc_new w _)];rfl
 have c4:w0.cell? ⟨w.heap.size,4,none⟩ = some (.int .i64 x.weights.spread):=by rw [← hw0,cell_of_row _ _ _ _ _ _ (heap_alloc_new w _)];rfl
 have c5:w0.cell? ⟨w.heap.size,5,none⟩ = some (.int .i64 x.weights.soft):=by rw [← hw0,cell_of_row _ _ _ _ _ _ (heap_alloc_new w _)];rfl
 have hB0:Below w.heap.size w w0:=by rw [← hw0];exact ak (aj _) _
 have hz0:w.heap.size < w0.heap.size:=by rw [← hw0];simp
 have HW0:=I' hw0;clear hw0;by_cases hh1:(x.hosts.length:Int)≤8
 ·by_cases hh2:(x.au.length:Int)≤12
  ·cases hnx:(decide ((1:Int)≤x.next)&&decide (x.next≤1000000000)) with
   | false =>have Jf:=I' hnx;have HF:=I' (oU (x:=x) avX);clear hnx;exact Zabk
   | true =>
     have Jf:=I' hnx;cases hwt:zL x.weights.pack x.weights.spread x.weights.soft with
     | false =>have Du:=I' hwt;have HF:=I' (oU (x:=x) avY);clear hnx hwt;exact Zabk
     | true =>
       have Du:=I' hwt;have HHD:=I' (show Em x = true by unfold Em;rw [hnx,hwt];simp [hh1,hh2]);have hn1:1≤x.next∧x.next≤1000000000:=(by simpa using hnx);obtain ⟨hn1,hn2⟩:=hn1;clear hnx hwt;go_enter Tryz.func33,Tryz.ntmps33;go_wp2_with fail
       rw [HW0.out]
       go_wp2_with (first
        | (go_at_call 82;refine (kH x.next 1 1000000000 _).mono ?_;rw [Jf.out];rintro e w1 ⟨rfl,hw1⟩;simp only [← hw1];clear hw1 w1)
        | (go_at_call 83;refine (pW x.weights.pack x.weights.spread x.weights.soft _).mono ?_;rw [Du.out];rintro e w2 ⟨rfl,hb2⟩;obtain ⟨hc2,hf2⟩:=ay hb2;have hz2:w.heap.size < w2.heap.size:=(sq hb2.size)))
       have Ji:=I' vk;have NV:=I' hlen;have abk:x.au.length≤12:=O';go_wp2_with fail
       go_loopw [3] (fun i wr=>∃k:Nat,k≤x.au.length∧i = .int .i64 k∧Hid (∀j,j < k→rowAt (jT x) dw x.au j = true)∧Hid (∀j,j < k→DN x.au j = true)∧Below w0.heap.size w0 wr) (fun i _=>x.au.length - (intOf i).toNat)
       case atStart=>exact ⟨0,Nat.zero_le _,rfl,(fun j hj=>by omega),(fun j hj=>by omega),hb2⟩
       case round =>
        obtain ⟨k,hk,rfl,hall,hfresh,hbl⟩:=hrel;by_cases hlt:k < x.au.length
        ·obtain rfl | ⟨j,rfl⟩:k = 0∨∃j,k = j+1:=by cases k with | zero=>exact .inl rfl | succ j=>exact .inr ⟨j,rfl⟩
         ·obtain ⟨b,o,ck3,Fk3,rfl,aak,jd,hr3,NW,hc3⟩:=Sl.get (α:=Placed) (A:=dn) (c:=bW) dM hlt;have CJ:=hr3;obtain ⟨fC,fD,yD,gB,gG,AA,bT,bU,qI,JG,JH,Dv,yE,FY,FZ,Dw,AB,qJ,aeg,Wv⟩:=kE CJ;subst JG;have q0:w.cell? ⟨b,o+0 * 9,none⟩ = some (.string x.au[0].aS.name):=(by exact hc3 0 _ rfl);have q1:w.cell? ⟨b,o+0 * 9+1,none⟩ = some (.slice fC x.au[0].aS.labels.length fD):=(by rw [Nat.add_assoc];exact hc3 1 _ rfl);have q2:w.cell? ⟨b,o+0 * 9+2,none⟩ = some (.int .i64 x.au[0].aS.cpu):=(by rw [Nat.add_assoc];exact hc3 2 _ rfl);have q3:w.cell? ⟨b,o+0 * 9+3,none⟩ = some (.int .i64 x.au[0].aS.mem):=(by rw [Nat.add_assoc];exact hc3 3 _ rfl);have q4:w.cell? ⟨b,o+0 * 9+4,none⟩ = some (.int .i64 x.au[0].aS.rank):=(by rw [Nat.add_assoc];exact hc3 4 _ rfl);have q5:w.cell? ⟨b,o+0 * 9+5,none⟩ = some (.slice gB x.au[0].aS.needs.length gG):=(by rw [Nat.add_assoc];exact hc3 5 _ rfl);have q6:w.cell? ⟨b,o+0 * 9+6,none⟩ = some (.slice bT x.au[0].aS.tolerances.length bU):=(by rw [Nat.add_assoc];exact hc3 6 _ rfl);have q7:w.cell? ⟨b,o+0 * 9+7,none⟩ = some (.string x.au[0].on):=(by rw [Nat.add_assoc];exact hc3 7 _ rfl);have q8:w.cell? ⟨b,o+0 * 9+8,none⟩ = some (.int .i64 x.au[0].seq):=(by rw [Nat.add_assoc];exact hc3 8 _ rfl);clear hc3 CJ JH;simp only [Nat.zero_mul,Nat.add_zero] at q0 q1 q2 q3 q4 q5 q6 q7 q8;obtain ⟨yR,don,U4,Gon,hdc,hdG,kG,_⟩:=hr3;have ku:rd w x.au[0].aS [.string x.au[0].aS.name,.slice fC x.au[0].aS.labels.length fD,.int .i64 x.au[0].aS.cpu,.int .i64 x.au[0].aS.mem,.int .i64 x.au[0].aS.rank,.slice gB x.au[0].aS.needs.length gG,.slice bT x.au[0].aS.tolerances.length bU] U4:=by
           exact Zabu
          clear hdc hdG kG;have hBr:Below w.heap.size w wr:=ah hB0 hbl;have jZ:=(ay hbl).1;replace c0:=(jZ _ _ hz0).trans c0;replace c1:=(jZ _ _ hz0).trans c1;replace c2:=(jZ _ _ hz0).trans c2;replace c3:=(jZ _ _ hz0).trans c3;replace c4:=(jZ _ _ hz0).trans c4;replace c5:=(jZ _ _ hz0).trans c5;clear jZ;replace q0:=((ay hBr).1 b _ jd).trans q0;replace q1:=((ay hBr).1 b _ jd).trans q1;replace q2:=((ay hBr).1 b _ jd).trans q2;replace q3:=((ay hBr).1 b _ jd).trans q3;replace q4:=((ay hBr).1 b _ jd).trans q4;replace q5:=((ay hBr).1 b _ jd).trans q5;replace q6:=((ay hBr).1 b _ jd).trans q6;replace q7:=((ay hBr).1 b _ jd).trans q7;replace q8:=((ay hBr).1 b _ jd).trans q8;have WU:b < wr.heap.size:=(by have:=hBr.size;omega);have tX:w.heap.size < wr.heap.size:=(by have:=hbl.size;omega);have Ue:=dM.Ec x.au[0] (List.getElem_mem ..);have anL:=Ue.1;have anM:=Ue.2;have hwk:=HWQ.out (0) hlt;have hnw:IntKind.i64.wrap (x.next - 1) = x.next - 1:=IntWalk.i64_in _ O';obtain ⟨wi,hwi⟩:∃wi,(decide ((1:Int)≤x.au[0].seq)&&decide (x.au[0].seq≤x.next - 1)) = wi:=⟨_,rfl⟩;have LQ:=I' hwi;cases h1:GU x.au[0].aS with
          | false =>have H1:=I' h1;as_aux_lemma =>have hp:=pV (ok:=jT x) (less:=dw) hlt (show jT x x.au[0] = false by unfold jT;rw [h1];rfl);have HF:=I' (jP hlt hp);clear hp;exact Zaej
          | true =>
            have H1:=I' h1;cases wi with
            | false =>
              as_aux_lemma =>
               have hp:=pV (ok:=jT x) (less:=dw) hlt (show jT x x.au[0] = false by unfold jT;rw [hwi];simp);have HF:=I' (jP hlt hp);clear hp;exact Zaej
            | true =>
              cases hon:(x.au[0].on.toList == []) with
              | true =>have Hg:=I' (show True from trivial);have OW:(x.au[0].on.toList != []) = false:=(by unfold bne;rw [hon];rfl);as_aux_lemma =>have hp:=pV (ok:=jT x) (less:=dw) hlt (show jT x x.au[0] = true by unfold jT;rw [h1,hwi,hon];rfl);exact Zaav
              | false =>
                have OW:(x.au[0].on.toList != []) = true:=(by unfold bne;rw [hon];rfl);rcases yg (iM x.au[0].on) x.hosts with hi | ⟨iz,hiz,hi⟩
                ·have Hg:=I' hi;as_aux_lemma =>have hp:=pV (ok:=jT x) (less:=dw) hlt (show jT x x.au[0] = false by unfold jT;rw [hi,hon];simp);have HF:=I' (jP hlt hp);clear hp hi;exact Zaej
                ·have Hg:=I' hi;have hdi:decide ((iz:Int) < 0) = false:=decide_eq_false O';have hp0:jT x x.au[0] = true:=(by unfold jT;rw [h1,hwi,hon,hi];simp);clear hi;as_aux_lemma =>have hp:=pV (ok:=jT x) (less:=dw) hlt (show jT x x.au[0] = true by exact hp0);exact Zaav
         ·obtain ⟨b,o,ck3,Fk3,rfl,aak,jd,hr3,NW,hc3⟩:=Sl.get (α:=Placed) (A:=dn) (c:=bW) dM hlt;have CJ:=hr3;obtain ⟨fC,fD,yD,gB,gG,AA,bT,bU,qI,JG,JH,Dv,yE,FY,FZ,Dw,AB,qJ,aeg,Wv⟩:=kE CJ;subst JG;have q0:w.cell? ⟨b,o+(j+1) * 9,none⟩ = some (.string x.au[j+1].aS.name):=(by exact hc3 0 _ rfl);have q1:w.cell? ⟨b,o+(j+1) * 9+1,none⟩ = some (.slice fC x.au[j+1].aS.labels.length fD):=(by rw [Nat.add_assoc];exact hc3 1 _ rfl);have q2:w.cell? ⟨b,o+(j+1) * 9+2,none⟩ = some (.int .i64 x.au[j+1].aS.cpu):=(by rw [Nat.add_assoc];exact hc3 2 _ rfl);have q3:w.cell? ⟨b,o+(j+1) * 9+3,none⟩ = some (.int .i64 x.au[j+1].aS.mem):=(by rw [Nat.add_assoc];exact hc3 3 _ rfl);have q4:w.cell? ⟨b,o+(j+1) * 9+4,none⟩ = some (.int .i64 x.au[j+1].aS.rank):=(by rw [Nat.add_assoc];exact hc3 4 _ rfl);have q5:w.cell? ⟨b,o+(j+1) * 9+5,none⟩ = some (.slice gB x.au[j+1].aS.needs.length gG):=(by rw [Nat.add_assoc];exact hc3 5 _ rfl);have q6:w.cell? ⟨b,o+(j+1) * 9+6,none⟩ = some (.slice bT x.au[j+1].aS.tolerances.length bU):=(by rw [Nat.add_assoc];exact hc3 6 _ rfl);have q7:w.cell? ⟨b,o+(j+1) * 9+7,none⟩ = some (.string x.au[j+1].on):=(by rw [Nat.add_assoc];exact hc3 7 _ rfl);have q8:w.cell? ⟨b,o+(j+1) * 9+8,none⟩ = some (.int .i64 x.au[j+1].seq):=(by rw [Nat.add_assoc];exact hc3 8 _ rfl);clear hc3 CJ JH;obtain ⟨b',o',ck4,Fk4,e,anJ,sZ,hr4,afh,hc4⟩:=Sl.get (α:=Placed) (c:=bW) dM (show j < x.au.length by omega);have P9:=hr4;obtain ⟨BK,BL,Q9,Ed,Ee,U5,uj,um,JD,aal,aam,YE,Fa,NZ,N7,J4,Hl,yF,alK,adB⟩:=kE P9;subst aal;obtain ⟨rfl,rfl⟩:b' = b∧o' = o:=by simpa using e.symm
          clear e;have p0:w.cell? ⟨b',o'+j * 9,none⟩ = some (.string x.au[j].aS.name):=(by exact hc4 0 _ rfl);have p1:w.cell? ⟨b',o'+j * 9+1,none⟩ = some (.slice BK x.au[j].aS.labels.length BL):=(by rw [Nat.add_assoc];exact hc4 1 _ rfl);have p2:w.cell? ⟨b',o'+j * 9+2,none⟩ = some (.int .i64 x.au[j].aS.cpu):=(by rw [Nat.add_assoc];exact hc4 2 _ rfl);have p3:w.cell? ⟨b',o'+j * 9+3,none⟩ = some (.int .i64 x.au[j].aS.mem):=(by rw [Nat.add_assoc];exact hc4 3 _ rfl);have p4:w.cell? ⟨b',o'+j * 9+4,none⟩ = some (.int .i64 x.au[j].aS.rank):=(by rw [Nat.add_assoc];exact hc4 4 _ rfl);have p5:w.cell? ⟨b',o'+j * 9+5,none⟩ = some (.slice Ed x.au[j].aS.needs.length Ee):=(by rw [Nat.add_assoc];exact hc4 5 _ rfl);have p6:w.cell? ⟨b',o'+j * 9+6,none⟩ = some (.slice uj x.au[j].aS.tolerances.length um):=(by rw [Nat.add_assoc];exact hc4 6 _ rfl);have p7:w.cell? ⟨b',o'+j * 9+7,none⟩ = some (.string x.au[j].on):=(by rw [Nat.add_assoc];exact hc4 7 _ rfl);have p8:w.cell? ⟨b',o'+j * 9+8,none⟩ = some (.int .i64 x.au[j].seq):=(by rw [Nat.add_assoc];exact hc4 8 _ rfl);clear hc4 P9 aam;obtain ⟨yR,don,U4,Gon,hdc,hdG,kG,_⟩:=hr3;have ku:rd w x.au[j+1].aS [.string x.au[j+1].aS.name,.slice fC x.au[j+1].aS.labels.length fD,.int .i64 x.au[j+1].aS.cpu,.int .i64 x.au[j+1].aS.mem,.int .i64 x.au[j+1].aS.rank,.slice gB x.au[j+1].aS.needs.length gG,.slice bT x.au[j+1].aS.tolerances.length bU] U4:=by
           exact Zabu
          clear hdc hdG kG;have hBr:Below w.heap.size w wr:=ah hB0 hbl;have jZ:=(ay hbl).1;replace c0:=(jZ _ _ hz0).trans c0;replace c1:=(jZ _ _ hz0).trans c1;replace c2:=(jZ _ _ hz0).trans c2;replace c3:=(jZ _ _ hz0).trans c3;replace c4:=(jZ _ _ hz0).trans c4;replace c5:=(jZ _ _ hz0).trans c5;clear jZ;replace q0:=((ay hBr).1 b' _ jd).trans q0;replace q1:=((ay hBr).1 b' _ jd).trans q1;replace q2:=((ay hBr).1 b' _ jd).trans q2;replace q3:=((ay hBr).1 b' _ jd).trans q3;replace q4:=((ay hBr).1 b' _ jd).trans q4;replace q5:=((ay hBr).1 b' _ jd).trans q5;replace q6:=((ay hBr).1 b' _ jd).trans q6;replace q7:=((ay hBr).1 b' _ jd).trans q7;replace q8:=((ay hBr).1 b' _ jd).trans q8;replace p0:=((ay hBr).1 b' _ sZ).trans p0;replace p1:=((ay hBr).1 b' _ sZ).trans p1;replace p2:=((ay hBr).1 b' _ sZ).trans p2;replace p3:=((ay hBr).1 b' _ sZ).trans p3;replace p4:=((ay hBr).1 b' _ sZ).trans p4;replace p5:=((ay hBr).1 b' _ sZ).trans p5;replace p6:=((ay hBr).1 b' _ sZ).trans p6;replace p7:=((ay hBr).1 b' _ sZ).trans p7;replace p8:=((ay hBr).1 b' _ sZ).trans p8;have WU:b' < wr.heap.size:=(by have:=hBr.size;omega);have tX:w.heap.size < wr.heap.size:=(by have:=hbl.size;omega);have Ue:=dM.Ec x.au[j+1] (List.getElem_mem ..);have anL:=Ue.1;have anM:=Ue.2;have hwk:=HWQ.out (j+1) hlt;have hnw:IntKind.i64.wrap (x.next - 1) = x.next - 1:=IntWalk.i64_in _ O';have hwj:IntKind.i64.wrap (j:Int) = j:=IntWalk.i64_in _ O';have hjl:j < x.au.length:=O';clear p1 p2 p3 p4 p5 p6 p7 p8 Fa Hl yF NZ N7 J4 alK adB;obtain ⟨wi,hwi⟩:∃wi,(decide ((1:Int)≤x.au[j+1].seq)&&decide (x.au[j+1].seq≤x.next - 1)) = wi:=⟨_,rfl⟩;have LQ:=I' hwi;cases h1:GU x.au[j+1].aS with
          | false =>have H1:=I' h1;obtain ⟨u3,h3⟩:∃u,dw x.au[j] x.au[j+1] = u:=⟨_,rfl⟩;as_aux_lemma =>have hp:=nM (ok:=jT x) (less:=dw) hlt (show jT x x.au[j+1] = false by unfold jT;rw [h1];rfl) (show dw x.au[j] x.au[j+1] = u3 from h3);exact Zaf2
          | true =>
            have H1:=I' h1;cases h3:Op.bytesLess x.au[j].aS.name.toList x.au[j+1].aS.name.toList with
            | false =>
              as_aux_lemma =>
               obtain ⟨v,hv⟩:∃v,jT x x.au[j+1] = v:=⟨_,rfl⟩;have hp:=nM (ok:=jT x) (less:=dw) hlt (show jT x x.au[j+1] = v by exact hv) (show dw x.au[j] x.au[j+1] = false from h3);try simp only [Bool.and_false,Bool.and_true,Bool.false_and,Bool.and_self] at hp
               have HF:=I' (jP hlt hp);clear hp hv;exact Zaeg
            | true =>
              cases wi with
              | false =>
                as_aux_lemma =>
                 have hp:=nM (ok:=jT x) (less:=dw) hlt (show jT x x.au[j+1] = false by unfold jT;rw [hwi];simp) (show dw x.au[j] x.au[j+1] = true from h3);exact Zaf2
              | true =>
                cases hon:(x.au[j+1].on.toList == []) with
                | true =>have Hg:=I' (show True from trivial);have OW:(x.au[j+1].on.toList != []) = false:=(by unfold bne;rw [hon];rfl);as_aux_lemma =>have hp:=nM (ok:=jT x) (less:=dw) hlt (show jT x x.au[j+1] = true by unfold jT;rw [h1,hwi,hon];rfl) (show dw x.au[j] x.au[j+1] = true from h3);exact Zaad
                | false =>
                  have OW:(x.au[j+1].on.toList != []) = true:=(by unfold bne;rw [hon];rfl);rcases yg (iM x.au[j+1].on) x.hosts with hi | ⟨iz,hiz,hi⟩
                  ·have Hg:=I' hi;as_aux_lemma =>
                    have hp:=nM (ok:=jT x) (less:=dw) hlt (show jT x x.au[j+1] = false by unfold jT;rw [hi,hon];simp) (show dw x.au[j] x.au[j+1] = true from h3);try simp only [Bool.and_false,Bool.and_true,Bool.false_and,Bool.and_self] at hp
                    have HF:=I' (jP hlt hp);clear hp hi;exact Zaeg
                  ·have Hg:=I' hi;have hdi:decide ((iz:Int) < 0) = false:=decide_eq_false O';have hp0:jT x x.au[j+1] = true:=(by unfold jT;rw [h1,hwi,hon,hi];simp);clear hi;as_aux_lemma =>have hp:=nM (ok:=jT x) (less:=dw) hlt (show jT x x.au[j+1] = true by exact hp0) (show dw x.au[j] x.au[j+1] = true from h3);exact Zaad
        ·have hkl:k = x.au.length:=O';subst hkl;have aqE:=I' hall.out;have HPF:=I' hfresh.out;clear hall hfresh;obtain ⟨wp,hwp⟩:∃wp,wp = wr:=⟨_,rfl⟩;subst hwp;have hbp:=hbl;have hzp:w0.heap.size≤wp.heap.size:=hbl.size;clear hbl hlt;have JI:=(ay hbp).1;have cp0:=(JI _ _ hz0).trans c0;have cp1:=(JI _ _ hz0).trans c1;have cp2:=(JI _ _ hz0).trans c2;have cp3:=(JI _ _ hz0).trans c3;have cp4:=(JI _ _ hz0).trans c4;have cp5:=(JI _ _ hz0).trans c5;clear JI;have hz0p:w.heap.size < wp.heap.size:=O';have Ji:=I' vk;have NV:=I' hlen;have abk:x.au.length≤12:=O';go_wp2_with fail
         go_loopw [6] (fun i wr=>∃k:Nat,k≤x.hosts.length∧i = .int .i64 k∧Hid (∀j,j < k→rowAt (dY x) dQ x.hosts j = true)∧Below w0.heap.size w0 wr) (fun i _=>x.hosts.length - (intOf i).toNat)
         case atStart=>exact ⟨0,Nat.zero_le _,rfl,(fun j hj=>by omega),hbp⟩
         case round =>
          obtain ⟨k,hk,rfl,hall,hbl⟩:=hrel;by_cases hlt:k < x.hosts.length
          ·obtain rfl | ⟨j,rfl⟩:k = 0∨∃j,k = j+1:=by cases k with | zero=>exact .inl rfl | succ j=>exact .inr ⟨j,rfl⟩
           ·obtain ⟨b,o,ck3,Fk3,rfl,aak,jd,hr3,NW,hc3⟩:=Sl.get (α:=Host) (A:=bG) (c:=bD) bQ hlt;have CJ:=hr3;obtain ⟨jM,jO,sN,jE,jF,sO,JG,JH,zM,qY,Gt,Gw,xg,qA⟩:=iy CJ;subst JG;have q0:w.cell? ⟨b,o+0 * 6,none⟩ = some (.string x.hosts[0].name):=(by exact hc3 0 _ rfl);have q1:w.cell? ⟨b,o+0 * 6+1,none⟩ = some (.slice jM x.hosts[0].labels.length jO):=(by rw [Nat.add_assoc];exact hc3 1 _ rfl);have q2:w.cell? ⟨b,o+0 * 6+2,none⟩ = some (.int .i64 x.hosts[0].cpu):=(by rw [Nat.add_assoc];exact hc3 2 _ rfl);have q3:w.cell? ⟨b,o+0 * 6+3,none⟩ = some (.int .i64 x.hosts[0].mem):=(by rw [Nat.add_assoc];exact hc3 3 _ rfl);have q4:w.cell? ⟨b,o+0 * 6+4,none⟩ = some (.int .i64 x.hosts[0].slots):=(by rw [Nat.add_assoc];exact hc3 4 _ rfl);have q5:w.cell? ⟨b,o+0 * 6+5,none⟩ = some (.slice jE x.hosts[0].aT.length jF):=(by rw [Nat.add_assoc];exact hc3 5 _ rfl);clear hc3 CJ JH;simp only [Nat.zero_mul,Nat.add_zero] at q0 q1 q2 q3 q4 q5;have hBr:Below w.heap.size w wr:=ah hB0 hbl;have jZ:=(ay hbl).1;replace c0:=(jZ _ _ hz0).trans c0;replace c1:=(jZ _ _ hz0).trans c1;replace c2:=(jZ _ _ hz0).trans c2;replace c3:=(jZ _ _ hz0).trans c3;replace c4:=(jZ _ _ hz0).trans c4;replace c5:=(jZ _ _ hz0).trans c5;clear jZ;replace q0:=((ay hBr).1 b _ jd).trans q0;replace q1:=((ay hBr).1 b _ jd).trans q1;replace q2:=((ay hBr).1 b _ jd).trans q2;replace q3:=((ay hBr).1 b _ jd).trans q3;replace q4:=((ay hBr).1 b _ jd).trans q4;replace q5:=((ay hBr).1 b _ jd).trans q5;have WU:b < wr.heap.size:=(by have:=hBr.size;omega);have tX:w.heap.size < wr.heap.size:=(by have:=hbl.size;omega);have hwk:=HWH.out (0) hlt;obtain ⟨a,b2,L,okv,hus,hfo,hL0,hL1⟩:=E8 x x.hosts[0];have HU:=I' hus;clear hus;have hLi:L≤12:=O';cases h1:Aj x.hosts[0] with
            | false =>
              have H1:=I' h1;as_aux_lemma =>
               have hp:=pV (ok:=dY x) (less:=dQ) hlt (show dY x x.hosts[0] = false by unfold dY;rw [h1];rfl);have HF:=I' (dW hlt hp);clear hp;go_wp2_with fail
               refine aF _ U' U' (aj _) ?_
               repeat (first
                | (apply aG
                   case hw=>rfl
                   simp only [Act.put,pz])
                | (apply aH
                   case hw=>rfl
                   case h =>exact Zaa5
                   simp only [Act.put,pz]))
               exact Zaau
            | true =>
              have H1:=I' h1;cases okv with
              | false =>
                as_aux_lemma =>
                 have hp:=pV (ok:=dY x) (less:=dQ) hlt (show dY x x.hosts[0] = false by unfold dY;rw [hfo];simp);exact Zaao
              | true =>
                by_cases ha:a≤x.hosts[0].cpu
                ·have hda:decide (x.hosts[0].cpu < a) = false:=decide_eq_false O';by_cases hb:b2≤x.hosts[0].mem
                 ·have hdb:decide (x.hosts[0].mem < b2) = false:=decide_eq_false O';by_cases hl:L≤x.hosts[0].slots
                  ·have hdl:decide (x.hosts[0].slots < L) = false:=decide_eq_false O';as_aux_lemma =>
                    have hp:=pV (ok:=dY x) (less:=dQ) hlt (show dY x x.hosts[0] = true by unfold dY;rw [h1,hfo];simp [ha,hb,hl]);have HN:=I' (gq hall.out hp);clear hp;go_wp2_with fail
                    refine aF _ U' U' (aj _) ?_
                    repeat (first
                     | (apply aG
                        case hw=>rfl
                        simp only [Act.put,pz])
                     | (apply aH
                        case hw=>rfl
                        case h =>exact Zaa5
                        simp only [Act.put,pz]))
                    refine aN ?_;intro wn hn;replace hn:=hn.out;obtain ⟨hcn,hfn⟩:=ay hn;have hzn:w.heap.size < wn.heap.size:=sq hn.size;have hyn:b < wn.heap.size:=sq hn.size;try (have hxn:wr.heap.size < wn.heap.size:=sq hn.size)
                    go_wp2_with (go_at_call 86;refine (jm x _ _ x.hosts[0].name _ (aJ h atS) Ji.out).mono ?_;rw [HU.out];rintro e w5 ⟨rfl,hb5⟩;obtain ⟨hc5,hf5⟩:=ay hb5;have Es:w.heap.size < w5.heap.size:=(sq hb5.size);have IV:b < w5.heap.size:=(sq hb5.size);(try have hx5:wr.heap.size < w5.heap.size:=(sq hb5.size)))
                    exact ⟨⟨0+1,O',N',HN.out,atS⟩,by simp [intOf];omega⟩
                  ·have hdl:decide (x.hosts[0].slots < L) = true:=decide_eq_true O';as_aux_lemma =>have hp:=pV (ok:=dY x) (less:=dQ) hlt (show dY x x.hosts[0] = false by unfold dY;rw [h1,hfo];simp [ha,hb,hl]);exact Zaao
                 ·have hdb:decide (x.hosts[0].mem < b2) = true:=decide_eq_true O';as_aux_lemma =>have hp:=pV (ok:=dY x) (less:=dQ) hlt (show dY x x.hosts[0] = false by unfold dY;rw [h1,hfo];simp [ha,hb]);exact Zaao
                ·have hda:decide (x.hosts[0].cpu < a) = true:=decide_eq_true O';as_aux_lemma =>have hp:=pV (ok:=dY x) (less:=dQ) hlt (show dY x x.hosts[0] = false by unfold dY;rw [h1,hfo];simp [ha]);exact Zaao
           ·obtain ⟨b,o,ck3,Fk3,rfl,aak,jd,hr3,NW,hc3⟩:=Sl.get (α:=Host) (A:=bG) (c:=bD) bQ hlt;have CJ:=hr3;obtain ⟨jM,jO,sN,jE,jF,sO,JG,JH,zM,qY,Gt,Gw,xg,qA⟩:=iy CJ;subst JG;have q0:w.cell? ⟨b,o+(j+1) * 6,none⟩ = some (.string x.hosts[j+1].name):=(by exact hc3 0 _ rfl);have q1:w.cell? ⟨b,o+(j+1) * 6+1,none⟩ = some (.slice jM x.hosts[j+1].labels.length jO):=(by rw [Nat.add_assoc];exact hc3 1 _ rfl);have q2:w.cell? ⟨b,o+(j+1) * 6+2,none⟩ = some (.int .i64 x.hosts[j+1].cpu):=(by rw [Nat.add_assoc];exact hc3 2 _ rfl);have q3:w.cell? ⟨b,o+(j+1) * 6+3,none⟩ = some (.int .i64 x.hosts[j+1].mem):=(by rw [Nat.add_assoc];exact hc3 3 _ rfl);have q4:w.cell? ⟨b,o+(j+1) * 6+4,none⟩ = some (.int .i64 x.hosts[j+1].slots):=(by rw [Nat.add_assoc];exact hc3 4 _ rfl);have q5:w.cell? ⟨b,o+(j+1) * 6+5,none⟩ = some (.slice jE x.hosts[j+1].aT.length jF):=(by rw [Nat.add_assoc];exact hc3 5 _ rfl);clear hc3 CJ JH;obtain ⟨b',o',ck4,Fk4,e,anJ,sZ,hr4,afh,hc4⟩:=Sl.get (α:=Host) (c:=bD) bQ (show j < x.hosts.length by omega);have P9:=hr4;obtain ⟨vS,vT,Bc,Jj,Jk,Xk,aal,aam,IZ,wL,JY,JZ,OV,KE⟩:=iy P9;subst aal;obtain ⟨rfl,rfl⟩:b' = b∧o' = o:=by simpa using e.symm
            clear e;have p0:w.cell? ⟨b',o'+j * 6,none⟩ = some (.string x.hosts[j].name):=(by exact hc4 0 _ rfl);have p1:w.cell? ⟨b',o'+j * 6+1,none⟩ = some (.slice vS x.hosts[j].labels.length vT):=(by rw [Nat.add_assoc];exact hc4 1 _ rfl);have p2:w.cell? ⟨b',o'+j * 6+2,none⟩ = some (.int .i64 x.hosts[j].cpu):=(by rw [Nat.add_assoc];exact hc4 2 _ rfl);have p3:w.cell? ⟨b',o'+j * 6+3,none⟩ = some (.int .i64 x.hosts[j].mem):=(by rw [Nat.add_assoc];exact hc4 3 _ rfl);have p4:w.cell? ⟨b',o'+j * 6+4,none⟩ = some (.int .i64 x.hosts[j].slots):=(by rw [Nat.add_assoc];exact hc4 4 _ rfl);have p5:w.cell? ⟨b',o'+j * 6+5,none⟩ = some (.slice Jj x.hosts[j].aT.length Jk):=(by rw [Nat.add_assoc];exact hc4 5 _ rfl);clear hc4 P9 aam;have hBr:Below w.heap.size w wr:=ah hB0 hbl;have jZ:=(ay hbl).1;replace c0:=(jZ _ _ hz0).trans c0;replace c1:=(jZ _ _ hz0).trans c1;replace c2:=(jZ _ _ hz0).trans c2;replace c3:=(jZ _ _ hz0).trans c3;replace c4:=(jZ _ _ hz0).trans c4;replace c5:=(jZ _ _ hz0).trans c5;clear jZ;replace q0:=((ay hBr).1 b' _ jd).trans q0;replace q1:=((ay hBr).1 b' _ jd).trans q1;replace q2:=((ay hBr).1 b' _ jd).trans q2;replace q3:=((ay hBr).1 b' _ jd).trans q3;replace q4:=((ay hBr).1 b' _ jd).trans q4;replace q5:=((ay hBr).1 b' _ jd).trans q5;replace p0:=((ay hBr).1 b' _ sZ).trans p0;replace p1:=((ay hBr).1 b' _ sZ).trans p1;replace p2:=((ay hBr).1 b' _ sZ).trans p2;replace p3:=((ay hBr).1 b' _ sZ).trans p3;replace p4:=((ay hBr).1 b' _ sZ).trans p4;replace p5:=((ay hBr).1 b' _ sZ).trans p5;have WU:b' < wr.heap.size:=(by have:=hBr.size;omega);have tX:w.heap.size < wr.heap.size:=(by have:=hbl.size;omega);have hwk:=HWH.out (j+1) hlt;have hwj:IntKind.i64.wrap (j:Int) = j:=IntWalk.i64_in _ O';have hjl:j < x.hosts.length:=O';clear p1 p2 p3 p4 p5 wL KE JY JZ OV;obtain ⟨a,b2,L,okv,hus,hfo,hL0,hL1⟩:=E8 x x.hosts[j+1];have HU:=I' hus;clear hus;have hLi:L≤12:=O';cases h1:Aj x.hosts[j+1] with
            | false =>have H1:=I' h1;obtain ⟨u3,h3⟩:∃u,dQ x.hosts[j] x.hosts[j+1] = u:=⟨_,rfl⟩;as_aux_lemma =>have hp:=nM (ok:=dY x) (less:=dQ) hlt (show dY x x.hosts[j+1] = false by unfold dY;rw [h1];rfl) (show dQ x.hosts[j] x.hosts[j+1] = u3 from h3);exact Zaeo
            | true =>
              have H1:=I' h1;cases h3:Op.bytesLess x.hosts[j].name.toList x.hosts[j+1].name.toList with
              | false =>obtain ⟨v,hv⟩:∃v,dY x x.hosts[j+1] = v:=⟨_,rfl⟩;as_aux_lemma =>have hp:=nM (ok:=dY x) (less:=dQ) hlt (show dY x x.hosts[j+1] = v by exact hv) (show dQ x.hosts[j] x.hosts[j+1] = false from h3);exact Zaeo
              | true =>
                cases okv with
                | false =>
                  as_aux_lemma =>
                   have hp:=nM (ok:=dY x) (less:=dQ) hlt (show dY x x.hosts[j+1] = false by unfold dY;rw [hfo];simp) (show dQ x.hosts[j] x.hosts[j+1] = true from h3);exact Zaan
                | true =>
                  by_cases ha:a≤x.hosts[j+1].cpu
                  ·have hda:decide (x.hosts[j+1].cpu < a) = false:=decide_eq_false O';by_cases hb:b2≤x.hosts[j+1].mem
                   ·have hdb:decide (x.hosts[j+1].mem < b2) = false:=decide_eq_false O';by_cases hl:L≤x.hosts[j+1].slots
                    ·have hdl:decide (x.hosts[j+1].slots < L) = false:=decide_eq_false O';as_aux_lemma =>
                      have hp:=nM (ok:=dY x) (less:=dQ) hlt (show dY x x.hosts[j+1] = true by unfold dY;rw [h1,hfo];simp [ha,hb,hl]) (show dQ x.hosts[j] x.hosts[j+1] = true from h3);try simp only [Bool.and_false,Bool.and_true,Bool.false_and,Bool.and_self] at hp
                      have HN:=I' (gq hall.out hp);clear hp;go_wp2_with fail
                      refine aF _ U' U' (aj _) ?_
                      repeat (first
                       | (apply aG
                          case hw=>rfl
                          simp only [Act.put,pz])
                       | (apply aH
                          case hw=>rfl
                          case h =>exact Zaa1
                          simp only [Act.put,pz]))
                      refine aN ?_;intro wn hn;replace hn:=hn.out;obtain ⟨hcn,hfn⟩:=ay hn;have hzn:w.heap.size < wn.heap.size:=sq hn.size;have hyn:b' < wn.heap.size:=sq hn.size;try (have hxn:wr.heap.size < wn.heap.size:=sq hn.size)
                      go_wp2_with (go_at_call 86;refine (jm x _ _ x.hosts[j+1].name _ (aJ h atS) Ji.out).mono ?_;rw [HU.out];rintro e w5 ⟨rfl,hb5⟩;obtain ⟨hc5,hf5⟩:=ay hb5;have Es:w.heap.size < w5.heap.size:=(sq hb5.size);have IV:b' < w5.heap.size:=(sq hb5.size);(try have hx5:wr.heap.size < w5.heap.size:=(sq hb5.size)))
                      exact ⟨⟨j+1+1,O',N',HN.out,atS⟩,by simp [intOf];omega⟩
                    ·have hdl:decide (x.hosts[j+1].slots < L) = true:=decide_eq_true O';as_aux_lemma =>have hp:=nM (ok:=dY x) (less:=dQ) hlt (show dY x x.hosts[j+1] = false by unfold dY;rw [h1,hfo];simp [ha,hb,hl]) (show dQ x.hosts[j] x.hosts[j+1] = true from h3);exact Zaan
                   ·have hdb:decide (x.hosts[j+1].mem < b2) = true:=decide_eq_true O';as_aux_lemma =>have hp:=nM (ok:=dY x) (less:=dQ) hlt (show dY x x.hosts[j+1] = false by unfold dY;rw [h1,hfo];simp [ha,hb]) (show dQ x.hosts[j] x.hosts[j+1] = true from h3);exact Zaan
                  ·have hda:decide (x.hosts[j+1].cpu < a) = true:=decide_eq_true O';as_aux_lemma =>have hp:=nM (ok:=dY x) (less:=dQ) hlt (show dY x x.hosts[j+1] = false by unfold dY;rw [h1,hfo];simp [ha]) (show dQ x.hosts[j] x.hosts[j+1] = true from h3);exact Zaan
          ·have hkl:k = x.hosts.length:=O';subst hkl;have jZ:=(ay hbl).1;have ce0:=(jZ _ _ hz0).trans c0;have ce1:=(jZ _ _ hz0).trans c1;have ce2:=(jZ _ _ hz0).trans c2;have ce3:=(jZ _ _ hz0).trans c3;have ce4:=(jZ _ _ hz0).trans c4;have ce5:=(jZ _ _ hz0).trans c5;clear jZ;have HF:=I' (OX HHD.out hall.out aqE.out HPF.out);have tX:w.heap.size < wr.heap.size:=(by have:=hbl.size;omega);go_wp2;go_ret
           exact ⟨by rw [HF.out];rfl,ah hB0 hbl⟩
  ·have HF:=I' (oU (x:=x) avZ);exact Zabk
 ·have HF:=I' (oU (x:=x) av1);exact Zabk
end Go.Proofs.YtkjeocdobidadaaGreat
