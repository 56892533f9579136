/- SameCluster, of the reference. No condition. -/
import Derived.Test.YtjahcnjmjahbaaaGreatSortLabelsP
namespace Go.Proofs.YtjahcnjmjahbaaaGreat
open Go.ChangeShapes Go.WideShapes Go.ChangeAt Go.RowKit
set_option linter.unusedVariables false
set_option linter.unusedSimpArgs false
set_option maxHeartbeats 4000000
set_option maxRecDepth 100000
theorem Xb (a b:aU) (cs ds:List Value) (F G:List Nat) (w:World) (h:rd w a cs F) (h':rd w b ds G) (GY:(a.wt:Int)≤1048576) (we:(b.wt:Int)≤1048576) :
 Calls Tryz.prog 16 #[.agg cs.toArray,.agg ds.toArray] w fun e w'=>e = .returned (.bool (lT a b))∧Below w.heap.size w w':=by
 have HXH:=I (show ∀l∈a.aa,(ba.wt l:Int)≤1048576 by intro l hl;have:=Bq (f:=ba.wt) hl;have e:a.wt = kL ba.wt a.aa+kL ag.wt a.J:=rfl;omega);have HYH:=I (show ∀l∈b.aa,(ba.wt l:Int)≤1048576 by intro l hl;have:=Bq (f:=ba.wt) hl;have e:b.wt = kL ba.wt b.aa+kL ag.wt b.J:=rfl;omega);have HXP:=I (show ∀l∈a.J,(ag.wt l:Int)≤1048576 by intro l hl;have:=Bq (f:=ag.wt) hl;have e:a.wt = kL ba.wt a.aa+kL ag.wt a.J:=rfl;omega);have QE:=I (show ∀l∈b.J,(ag.wt l:Int)≤1048576 by intro l hl;have:=Bq (f:=ag.wt) hl;have e:b.wt = kL ba.wt b.aa+kL ag.wt b.J:=rfl;omega);obtain ⟨dG,bV,xq,dS,dJ,Bz,ax,rfl,oO,tq,wI,iV,gI,iW⟩:=aO h;subst ax;obtain ⟨tK,tN,Eu,yJ,yK,I5,ax,rfl,tJ,yV,FD,mO,kW,mP⟩:=aO h';subst ax;clear GY we;have QG:=I (fun (x:ag) (hx:(ag.wt x:Int)≤1048576)=>(show (nI.wt x.aS:Int)≤1048576 by have e:ag.wt x = nI.wt x.aS+x.on.size:=rfl;omega));cases e2:(a.next == b.next) with
 | false =>have HF:=I (show lT a b = false by simp only [lT,e2,Bool.and_false,Bool.false_and,Bool.true_and,Bool.and_true]);have n2:(a.next != b.next) = true:=(by rw [bne,e2];rfl);go_enter Tryz.func16,Tryz.ntmps16;exact rS
 | true =>
   cases e3:vN a.weights b.weights with
   | false =>
     have HF:=I (show lT a b = false by simp only [lT,e2,e3,Bool.and_false,Bool.false_and,Bool.true_and,Bool.and_true]);have n2:(a.next != b.next) = false:=(by rw [bne,e2];rfl);have jh:=I e3;clear e3;go_enter Tryz.func16,Tryz.ntmps16;go_wp2_with (fail)
     all_goals first
      | (go_ret;exact ⟨by rw [HF.out];rfl,bu⟩)
      | (exfalso;have hx:=jh.out;simp [vN, *] at hx;done)
   | true =>
     by_cases mb:a.aa.length = b.aa.length
     ·by_cases fk:a.J.length = b.J.length
      ·have HF:=I (show lT a b = (same ou a.aa b.aa&&same lX a.J b.J) by simp only [lT,e2,e3,Bool.and_false,Bool.false_and,Bool.true_and,Bool.and_true]);have n2:(a.next != b.next) = false:=(by rw [bne,e2];rfl);have jh:=I e3;obtain ⟨⟨g1,g2⟩,g3⟩:(a.weights.pack = b.weights.pack∧a.weights.af = b.weights.af)∧a.weights.al = b.weights.al:=by have:=jh.out;simpa [vN] using this
       have VM:=I mb;have Pc:=I fk;have mh:((a.aa.length:Int) != (b.aa.length:Int)) = false:=(by simp [mb]);have mp:((a.J.length:Int) != (b.J.length:Int)) = false:=(by simp [fk]);have N1:=oO.aM;have yU:=tq.aM;unfold maxLen at N1 yU;clear e3 mb fk;go_enter Tryz.func16,Tryz.ntmps16;go_wp2_with (fail)
       clear g1 g2 g3;have yN:=oG.new w [.slice dG a.aa.length bV,.slice dS a.J.length dJ,.int .i64 a.next,.int .i64 b.weights.pack,.int .i64 b.weights.af,.int .i64 b.weights.al] 29;have yP:=oG.new (w.alloc (.cells ([.slice dG a.aa.length bV,.slice dS a.J.length dJ,.int .i64 a.next,.int .i64 b.weights.pack,.int .i64 b.weights.af,.int .i64 b.weights.al]:List Value).toArray 29)) [.slice tK b.aa.length tN,.slice yJ b.J.length yK,.int .i64 b.next,.int .i64 b.weights.pack,.int .i64 b.weights.af,.int .i64 b.weights.al] 29;go_loopw [5] (fun i wr=>∃k:Nat,k≤a.aa.length∧i = .int .i64 k∧Hid (same ou (a.aa.take k) (b.aa.take k) = true)∧oG wr w.heap.size [.slice dG a.aa.length bV,.slice dS a.J.length dJ,.int .i64 a.next,.int .i64 b.weights.pack,.int .i64 b.weights.af,.int .i64 b.weights.al]∧oG wr (w.heap.size+1) [.slice tK b.aa.length tN,.slice yJ b.J.length yK,.int .i64 b.next,.int .i64 b.weights.pack,.int .i64 b.weights.af,.int .i64 b.weights.al]∧Below w.heap.size w wr) (fun i _=>a.aa.length - (intOf i).toNat)
       case atStart=>exact ⟨0,Nat.zero_le _,rfl,by show _ = true;simp [same],yN.ext (ak (aj _) _),by simpa using yP,bu⟩
       case round =>
        clear yN yP;obtain ⟨k,hk,rfl,Heq,hKA,QO,az⟩:=hrel;have c0:wr.cell? ⟨w.heap.size,0,none⟩ = some (.slice dG a.aa.length bV):=hKA.cell (i:=0) rfl;have c1:wr.cell? ⟨w.heap.size,1,none⟩ = some (.slice dS a.J.length dJ):=hKA.cell (i:=1) rfl;have c2:wr.cell? ⟨w.heap.size,2,none⟩ = some (.int .i64 a.next):=hKA.cell (i:=2) rfl;have c3:wr.cell? ⟨w.heap.size,3,none⟩ = some (.int .i64 b.weights.pack):=hKA.cell (i:=3) rfl;have c4:wr.cell? ⟨w.heap.size,4,none⟩ = some (.int .i64 b.weights.af):=hKA.cell (i:=4) rfl;have c5:wr.cell? ⟨w.heap.size,5,none⟩ = some (.int .i64 b.weights.al):=hKA.cell (i:=5) rfl;have d0:wr.cell? ⟨w.heap.size+1,0,none⟩ = some (.slice tK b.aa.length tN):=QO.cell (i:=0) rfl;have d1:wr.cell? ⟨w.heap.size+1,1,none⟩ = some (.slice yJ b.J.length yK):=QO.cell (i:=1) rfl;have d2:wr.cell? ⟨w.heap.size+1,2,none⟩ = some (.int .i64 b.next):=QO.cell (i:=2) rfl;have d3:wr.cell? ⟨w.heap.size+1,3,none⟩ = some (.int .i64 b.weights.pack):=QO.cell (i:=3) rfl;have d4:wr.cell? ⟨w.heap.size+1,4,none⟩ = some (.int .i64 b.weights.af):=QO.cell (i:=4) rfl;have d5:wr.cell? ⟨w.heap.size+1,5,none⟩ = some (.int .i64 b.weights.al):=QO.cell (i:=5) rfl;have ce:w.heap.size < wr.heap.size:=hKA.lt;have cM:w.heap.size+1 < wr.heap.size:=QO.lt;by_cases ap:k < a.aa.length
        ·obtain ⟨q,o,ck,Fk,hA1,o9,hbs,hr,br,hc⟩:=(Sl.ext (w':=wr) (A:=dG) (c:=bV) oO az).get ap;have fL:k < b.aa.length:=(by rw [← VM.out];exact ap);obtain ⟨q',o',TY,Xw,hA2,Ht,hbs',cj,zQ,hc'⟩:=(Sl.ext (w':=wr) (A:=tK) (c:=tN) tJ az).get fL;subst hA1 hA2;obtain ⟨jM,jO,sN,jE,jF,sO,ax,rfl,zM,qY,Gt,Gw,xg,qA⟩:=iy hr;subst ax;obtain ⟨vS,vT,Bc,Jj,Jk,Xk,ax,rfl,IZ,wL,JY,JZ,OV,KE⟩:=iy cj;subst ax;obtain ⟨s0,s1,s2,s3,s4,s5⟩:=lb 6 hc;obtain ⟨t0,t1,t2,t3,t4,t5⟩:=lb 6 hc';clear hc hc';cases he:ou a.aa[k] b.aa[k] with
         | false =>
           have HE:=I he;have HS:=I (nP (k+1) JS VM.out);clear he;go_wp2_with fail
           refine aF wr U' U' BP ?_
           repeat ((first | refine aG Z ?_ | refine aH _ Z Ip ?_);simp only [Act.put,pz])
           refine aN ?_;intro wn hn;replace hn:=hn.out;go_wp2;go_ret
           exact ⟨by rw [HF.out,HS.out];rfl,ah az hn⟩
         | true =>
           have HE:=I he;have HS:=I (show same ou (a.aa.take (k+1)) (b.aa.take (k+1)) = true by rw [iC ap fL,Heq.out,he];rfl);clear he;go_wp2_with fail
           refine aF wr U' U' BP ?_
           repeat ((first | refine aG Z ?_ | refine aH _ Z Ip ?_);simp only [Act.put,pz])
           refine aN ?_;intro wn hn;replace hn:=hn.out;go_wp2;exact ⟨⟨k+1,O,N',HS,hKA.ext hn,QO.ext hn,ah az hn⟩,by simp [intOf];omega⟩
        ·have bz:k = a.aa.length:=O;subst bz;have h1:=Heq.out;rw [List.take_length,VM.out,List.take_length] at h1;clear Heq;have Rs:=I (show lT a b = same lX a.J b.J by rw [HF.out,h1];rfl);clear h1;obtain ⟨wo,hwo⟩:∃wo,wo = wr:=⟨_,rfl⟩;subst hwo;go_wp2_with fail
         go_loopw [6] (fun i wr=>∃k:Nat,k≤a.J.length∧i = .int .i64 k∧Hid (same lX (a.J.take k) (b.J.take k) = true)∧oG wr w.heap.size [.slice dG a.aa.length bV,.slice dS a.J.length dJ,.int .i64 a.next,.int .i64 b.weights.pack,.int .i64 b.weights.af,.int .i64 b.weights.al]∧oG wr (w.heap.size+1) [.slice tK b.aa.length tN,.slice yJ b.J.length yK,.int .i64 b.next,.int .i64 b.weights.pack,.int .i64 b.weights.af,.int .i64 b.weights.al]∧Below w.heap.size w wr) (fun i _=>a.J.length - (intOf i).toNat)
         case atStart=>exact ⟨0,Nat.zero_le _,rfl,by show _ = true;simp [same],hKA,QO,az⟩
         case round =>
          clear hKA QO az ce cM c0 d0 c1 d1 c2 d2 c3 d3 c4 d4 c5 d5;obtain ⟨k,hk,rfl,Heq,hKA,QO,az⟩:=hrel;have c0:wr.cell? ⟨w.heap.size,0,none⟩ = some (.slice dG a.aa.length bV):=hKA.cell (i:=0) rfl;have c1:wr.cell? ⟨w.heap.size,1,none⟩ = some (.slice dS a.J.length dJ):=hKA.cell (i:=1) rfl;have c2:wr.cell? ⟨w.heap.size,2,none⟩ = some (.int .i64 a.next):=hKA.cell (i:=2) rfl;have c3:wr.cell? ⟨w.heap.size,3,none⟩ = some (.int .i64 b.weights.pack):=hKA.cell (i:=3) rfl;have c4:wr.cell? ⟨w.heap.size,4,none⟩ = some (.int .i64 b.weights.af):=hKA.cell (i:=4) rfl;have c5:wr.cell? ⟨w.heap.size,5,none⟩ = some (.int .i64 b.weights.al):=hKA.cell (i:=5) rfl;have d0:wr.cell? ⟨w.heap.size+1,0,none⟩ = some (.slice tK b.aa.length tN):=QO.cell (i:=0) rfl;have d1:wr.cell? ⟨w.heap.size+1,1,none⟩ = some (.slice yJ b.J.length yK):=QO.cell (i:=1) rfl;have d2:wr.cell? ⟨w.heap.size+1,2,none⟩ = some (.int .i64 b.next):=QO.cell (i:=2) rfl;have d3:wr.cell? ⟨w.heap.size+1,3,none⟩ = some (.int .i64 b.weights.pack):=QO.cell (i:=3) rfl;have d4:wr.cell? ⟨w.heap.size+1,4,none⟩ = some (.int .i64 b.weights.af):=QO.cell (i:=4) rfl;have d5:wr.cell? ⟨w.heap.size+1,5,none⟩ = some (.int .i64 b.weights.al):=QO.cell (i:=5) rfl;have ce:w.heap.size < wr.heap.size:=hKA.lt;have cM:w.heap.size+1 < wr.heap.size:=QO.lt;by_cases ap:k < a.J.length
          ·obtain ⟨q,o,ck,Fk,hA1,o9,hbs,hr,br,hc⟩:=(Sl.ext (w':=wr) (A:=dS) (c:=dJ) tq az).get ap;have fL:k < b.J.length:=(by rw [← Pc.out];exact ap);obtain ⟨q',o',TY,Xw,hA2,Ht,hbs',cj,zQ,hc'⟩:=(Sl.ext (w':=wr) (A:=yJ) (c:=yK) yV az).get fL;subst hA1 hA2;have pr:=hr;have tg:=cj;obtain ⟨fC,fD,yD,gB,gG,AA,bT,bU,qI,ax,rfl,Dv,yE,FY,FZ,Dw,AB,qJ,aeg,Wv⟩:=kE hr;subst ax;obtain ⟨BK,BL,Q9,Ed,Ee,U5,uj,um,JD,ax,rfl,YE,Fa,NZ,N7,J4,Hl,yF,alK,adB⟩:=kE cj;subst ax;obtain ⟨yR,don,Gpod3,Gon,hdc,hdG,kG,_⟩:=pr;have mu:rd wr a.J[k].aS [.string a.J[k].aS.name,.slice fC a.J[k].aS.labels.length fD,.int .i64 a.J[k].aS.aw,.int .i64 a.J[k].aS.mem,.int .i64 a.J[k].aS.av,.slice gB a.J[k].aS.ai.length gG,.slice bT a.J[k].aS.ae.length bU] Gpod3:=by
            exact pa
           clear hdc hdG kG;obtain ⟨yR,don,Gpod4,Gon,hdc,hdG,kG,_⟩:=tg;have hZ:rd wr b.J[k].aS [.string b.J[k].aS.name,.slice BK b.J[k].aS.labels.length BL,.int .i64 b.J[k].aS.aw,.int .i64 b.J[k].aS.mem,.int .i64 b.J[k].aS.av,.slice Ed b.J[k].aS.ai.length Ee,.slice uj b.J[k].aS.ae.length um] Gpod4:=by
            exact pa
           clear hdc hdG kG;have qi:=I mu;have vc:=I hZ;clear mu hZ;obtain ⟨s0,s1,s2,s3,s4,s5,s6,s7,s8⟩:=om 9 hc;obtain ⟨t0,t1,t2,t3,t4,t5,t6,t7,t8⟩:=om 9 hc';clear hc hc';cases p0:(a.J[k].on.toList == b.J[k].on.toList) with
           | false =>have he:lX a.J[k] b.J[k] = false:=(by simp only [lX,p0,Bool.and_false,Bool.false_and,Bool.true_and,Bool.and_true]);have VN:(a.J[k].on.toList != b.J[k].on.toList) = true:=(by rw [bne,p0];rfl);exact JR
           | true =>
             cases p1:(a.J[k].seq == b.J[k].seq) with
             | false =>have he:lX a.J[k] b.J[k] = false:=(by simp only [lX,p0,p1,Bool.and_false,Bool.false_and,Bool.true_and,Bool.and_true]);have VN:(a.J[k].on.toList != b.J[k].on.toList) = false:=(by rw [bne,p0];rfl);have n1':(a.J[k].seq != b.J[k].seq) = true:=(by rw [bne,p1];rfl);exact JR
             | true =>
               cases p2:vF a.J[k].aS b.J[k].aS with
               | false =>
                 have he:lX a.J[k] b.J[k] = false:=(by simp only [lX,p0,p1,p2,Bool.and_false,Bool.false_and,Bool.true_and,Bool.and_true]);have VN:(a.J[k].on.toList != b.J[k].on.toList) = false:=(by rw [bne,p0];rfl);have n1':(a.J[k].seq != b.J[k].seq) = false:=(by rw [bne,p1];rfl);have HS:=I (nP (k+1) JS Pc.out);clear he;have EB:=I p2;clear p2;go_wp2_with fail
                 refine (acn a.J[k].aS b.J[k].aS _ _ _ _ _ (aJ qi.out bu) (aJ vc.out bu) (QG.out _ (HXP.out _ (List.getElem_mem ..))) (QG.out _ (QE.out _ (List.getElem_mem ..)))).mono ?_;rw [EB.out];rintro e w2 ⟨rfl,ao⟩;go_wp2;go_ret
                 exact ⟨by rw [Rs.out,HS.out];rfl,bu⟩
               | true =>
                 have he:lX a.J[k] b.J[k] = true:=(by simp only [lX,p0,p1,p2,Bool.and_false,Bool.false_and,Bool.true_and,Bool.and_true]);have VN:(a.J[k].on.toList != b.J[k].on.toList) = false:=(by rw [bne,p0];rfl);have n1':(a.J[k].seq != b.J[k].seq) = false:=(by rw [bne,p1];rfl);have HS:=I (show same lX (a.J.take (k+1)) (b.J.take (k+1)) = true by rw [iC ap fL,Heq.out,he];rfl);clear he;have EB:=I p2;clear p2;go_wp2_with fail
                 refine (acn a.J[k].aS b.J[k].aS _ _ _ _ _ (aJ qi.out bu) (aJ vc.out bu) (QG.out _ (HXP.out _ (List.getElem_mem ..))) (QG.out _ (QE.out _ (List.getElem_mem ..)))).mono ?_;rw [EB.out];rintro e w2 ⟨rfl,ao⟩;go_wp2
                 first
                  | exact ⟨⟨k+1,O,N',HS,hKA.ext bu,QO.ext bu,bu⟩,by simp [intOf];omega⟩
                  | (refine ⟨?_,by simp [intOf];omega⟩
                     repeat apply Exists.intro
                     exact ⟨⟨k+1,O,N',HS,hKA.ext bu,QO.ext bu,bu⟩,rfl⟩)
          ·have bz:k = a.J.length:=O;have HK:=I bz;clear bz;go_wp2;go_ret
           have h1:=Heq.out;rw [HK.out,List.take_length,Pc.out,List.take_length] at h1;exact ⟨by rw [Rs.out,h1];rfl,az⟩
      ·have n2:(a.next != b.next) = false:=(by rw [bne,e2];rfl);have mh:((a.aa.length:Int) != (b.aa.length:Int)) = false:=(by simp [mb]);have jh:=I e3;obtain ⟨⟨g1,g2⟩,g3⟩:(a.weights.pack = b.weights.pack∧a.weights.af = b.weights.af)∧a.weights.al = b.weights.al:=by have:=jh.out;simpa [vN] using this
       clear e2 e3 mb;have hs:=qN (eq:=lX) fk;have HF:=I (show lT a b = false by simp only [lT,hs,Bool.and_false,Bool.false_and,Bool.true_and,Bool.and_true]);have mp:((a.J.length:Int) != (b.J.length:Int)) = true:=(by simp;omega);clear hs fk;go_enter Tryz.func16,Tryz.ntmps16;exact rS
     ·have n2:(a.next != b.next) = false:=(by rw [bne,e2];rfl);have jh:=I e3;obtain ⟨⟨g1,g2⟩,g3⟩:(a.weights.pack = b.weights.pack∧a.weights.af = b.weights.af)∧a.weights.al = b.weights.al:=by have:=jh.out;simpa [vN] using this
      clear e2 e3;have hs:=qN (eq:=ou) mb;have HF:=I (show lT a b = false by simp only [lT,hs,Bool.and_false,Bool.false_and,Bool.true_and,Bool.and_true]);have mh:((a.aa.length:Int) != (b.aa.length:Int)) = true:=(by simp;omega);clear hs mb;go_enter Tryz.func16,Tryz.ntmps16;exact rS
def Fq (xs:List iU):List iU × Bool:=if xs.length≤40∧La (ey qo [] xs) = true then (ey qo [] xs,true) else (xs,false)
theorem ayj {xs:List iU} (h:¬xs.length≤40):Fq xs = (xs,false):=if_neg fun hh=>h hh.1
theorem ayT {xs:List iU} (h:xs.length≤40) (h2:La (ey qo [] xs) = true):Fq xs = (ey qo [] xs,true):=if_pos ⟨h,h2⟩
theorem az7 {xs:List iU} (h2:La (ey qo [] xs) = false):Fq xs = (xs,false):=if_neg fun hh=>by rw [h2] at hh;cases hh.2
theorem YY {xs:List iU} {z:iU} (h:z∈ey qo [] xs):z∈xs:=by
 rcases (EV Sa z xs []).1 h with h | h
 ·cases h
 ·exact h
theorem azM (xs:List iU):kL iU.wt (Fq xs).1≤kL iU.wt xs:=by
 have h:=EX iU.wt qo xs [];have hl:=zl qo xs [];unfold Fq kL;split
 ·dsimp only;exact BA
 ·exact Nat.le_refl _
def kw (xs:List bH):List bH × Bool:=if xs.length≤40∧Ya (ey vJ [] xs) = true then (ey vJ [] xs,true) else (xs,false)
theorem az8 {xs:List bH} (h:¬xs.length≤40):kw xs = (xs,false):=if_neg fun hh=>h hh.1
theorem aAx {xs:List bH} (h:xs.length≤40) (h2:Ya (ey vJ [] xs) = true):kw xs = (ey vJ [] xs,true):=if_pos ⟨h,h2⟩
theorem aBF {xs:List bH} (h2:Ya (ey vJ [] xs) = false):kw xs = (xs,false):=if_neg fun hh=>by rw [h2] at hh;cases hh.2
theorem aIF {xs:List bH} {z:bH} (h:z∈ey vJ [] xs):z∈xs:=by
 rcases (EV Sb z xs []).1 h with h | h
 ·cases h
 ·exact h
theorem aBz (xs:List bH):kL bH.wt (kw xs).1≤kL bH.wt xs:=by
 have h:=EX bH.wt vJ xs [];have hl:=zl vJ xs [];unfold kw kL;split
 ·dsimp only;exact BA
 ·exact Nat.le_refl _
def nU (x:bj):bj:=⟨x.key,x.op,gN x.values⟩
def CH (xs:List bj):Bool:=xs.all fun x=>decide (x.values.length≤40)
def kz (xs:List bj):List bj:=ey nD [] (xs.map nU)
def kg (xs:List bj):List bj × Bool:=if xs.length≤40∧CH xs = true∧mz (kz xs) = true then (kz xs,true) else (xs,false)
theorem ayR {xs:List bj} (h:¬xs.length≤40):kg xs = (xs,false):=if_neg fun hh=>h hh.1
theorem ayS {xs:List bj} (h:CH xs = false):kg xs = (xs,false):=if_neg fun hh=>by rw [h] at hh;cases hh.2.1
theorem az3 {xs:List bj} (h:xs.length≤40) (h1:CH xs = true) (h2:mz (kz xs) = true):kg xs = (kz xs,true):=if_pos ⟨h,h1,h2⟩
theorem aAv {xs:List bj} (h2:mz (kz xs) = false):kg xs = (xs,false):=if_neg fun hh=>by rw [h2] at hh;cases hh.2.2
theorem az4 {xs:List bj} {z:bj} (h:z∈kz xs):∃x∈xs,z = nU x:=by
 rcases (EV (lt:=nD) aDI z (xs.map nU) []).1 h with h | h
 ·cases h
 ·obtain ⟨x,hx,rfl⟩:=List.mem_map.1 h;exact ⟨x,hx,rfl⟩
theorem aDu (xs:List bj):(kz xs).length≤xs.length:=by have:=zl nD (xs.map nU) [];unfold kz;simpa using this
theorem aF2 (x:bj):(nU x).wt≤x.wt:=by have:=aB3 x.values;unfold nU bj.wt Ea;dsimp only;omega
theorem az5 {α:Type} {f:α→Nat} {g:α→α} (h:∀x,f (g x)≤f x):∀xs:List α,((xs.map g).map f).sum≤(xs.map f).sum
 | []=>Nat.le_refl _
 | x :: xs=>by have h1:=h x;have h2:=az5 h xs;simp only [List.map_cons,List.sum_cons];omega
theorem aAu (xs:List bj):kL bj.wt (kg xs).1≤kL bj.wt xs:=by
 have h:=EX bj.wt nD (xs.map nU) [];have hl:=zl nD (xs.map nU) [];have hm:=az5 aF2 xs;unfold kg kL;split
 ·dsimp only;simp only [List.map_nil,List.sum_nil,List.length_nil,List.length_map] at h hl;unfold kz;omega
 ·exact Nat.le_refl _
theorem aEp {xs:List bj} (h:CH xs = true) {x:bj} (hx:x∈xs):x.values.length≤40:=by
 have:=List.all_eq_true.1 h x hx;simpa using this
theorem aDv {xs:List bj} {x:bj} (hx:x∈xs) (h:¬x.values.length≤40):CH xs = false:=by
 cases hh:CH xs with
 | false=>rfl
 | true=>exact absurd (aEp hh hx) h
theorem aDw {xs:List bj} (h:∀j (hj:j < xs.length),xs[j].values.length≤40):CH xs = true:=by
 refine List.all_eq_true.2 fun x hx=>?_;obtain ⟨j,hj,rfl⟩:=List.getElem_of_mem hx;simpa using h j hj
theorem Ti {x:bj} (h:x.wt≤1048576):((nU x).key.size:Int)≤1048576∧((nU x).values.length:Int)≤1048576∧(∀v∈(nU x).values,(v.size:Int)≤1048576):=by
 have h2:bj.wt x = x.key.size+kL ByteArray.size x.values:=rfl;have h3:=gJ ByteArray.size x.values;have h4:=aAP x.values;refine ⟨?_,?_,fun v hv=>?_⟩
 ·show (x.key.size:Int)≤_;omega
 ·show ((gN x.values).length:Int)≤_;omega
 ·have:=Bq (f:=ByteArray.size) (aA4 hv);omega
def GU (x:nI):Bool:=Qs x.name&&sD x.labels&&mz x.ai&&Ya x.ae&&(decide (0≤x.aw)&&decide (0≤x.mem))&&(decide (0≤x.av)&&decide (x.av≤1000))
def VX (l:bj):Prop:=(l.key.size:Int)≤1048576∧(l.values.length:Int)≤1048576∧∀v∈l.values,(v.size:Int)≤1048576
def VY (l:bH):Prop:=(l.key.size:Int)≤1048576∧(l.value.size:Int)≤1048576
theorem vw (x:nI) (cs:List Value) (F:List Nat) (w:World) (h:rd w x cs F) (pv:(x.name.size:Int)≤1048576) (gg:(x.labels.length:Int)≤1048576) (fN:∀l∈x.labels,(l.key.size:Int)≤1048576∧(l.value.size:Int)≤1048576) (qv:(x.ai.length:Int)≤1048576) (VU:∀l∈x.ai,VX l) (iu:(x.ae.length:Int)≤1048576) (gx:∀l∈x.ae,VY l) :
 Calls Tryz.prog 41 #[.agg cs.toArray] w fun e w'=>e = .returned (.bool (GU x))∧Below w.heap.size w w':=by
 have Zb:=I fN;have Cd:=I VU;have Ux:=I gx;clear fN gx VU;have hr:=h;obtain ⟨gu,gy,jw,oh,nT,wG,fA,fB,jY,ax,hF,hname,dO,vg,cE,BJ,mX,eG⟩:=dL hr;subst ax;clear hr hF;go_enter Tryz.func41,Tryz.ntmps41
 go_wp2_with (first
  | (go_at_call 75;refine (Ro x.name _ pv).mono ?_;rintro e w2 ⟨rfl,ao⟩;obtain ⟨cb,cG⟩:=ay ao;have cI:w.heap.size < w2.heap.size:=(sq ao.size))
  | (go_at_call 76;refine (Jv x.labels _ _ _ _ _ (dO.ext bu) rfl gg Zb.out).mono ?_;rintro e w3 ⟨rfl,bd⟩;obtain ⟨cX,hf3⟩:=ay bd;have ez:w.heap.size < w3.heap.size:=(sq bd.size))
  | (go_at_call 78;refine (WI x.ai _ _ _ _ _ (mX.ext bu) rfl qv Cd.out).mono ?_;rintro e w4 ⟨rfl,bL⟩;obtain ⟨eA,hf4⟩:=ay bL;have Wy:w.heap.size < w4.heap.size:=(sq bL.size))
  | (go_at_call 79;refine (RH x.ae _ _ _ _ _ (eG.ext bu) rfl iu Ux.out).mono ?_;rintro e w5 ⟨rfl,bt⟩;obtain ⟨kO,j'⟩:=ay bt;have Es:w.heap.size < w5.heap.size:=(sq bt.size))
  | go_in)
 all_goals first
  | (go_ret;refine ⟨?_,bu⟩;refine congrArg (fun b=>Ending.returned (Value.bool b)) ?_;show (_:Bool) = _;(try clear cb cG);(try clear cX hf3);(try clear eA hf4);(try clear kO j');unfold GU;first | (simp [*];done) | (simp [*];omega) | (simp_all;done) | (simp_all;omega))
  | skip
theorem wM (x:nI) (cs:List Value) (F:List Nat) (w:World) (h:rd w x cs F) (pv:(x.name.size:Int)≤1048576) (gg:(x.labels.length:Int)≤1048576) (fN:∀l∈x.labels,(l.key.size:Int)≤1048576∧(l.value.size:Int)≤1048576) (qv:(x.ai.length:Int)≤1048576) (VU:∀l∈x.ai,VX l) (iu:(x.ae.length:Int)≤1048576) (gx:∀l∈x.ae,VY l) :
 Calls Tryz.prog 54 #[.agg cs.toArray] w fun e w'=>e = .returned (.bool (GU x))∧Below w.heap.size w w':=by
 have Zb:=I fN;have Cd:=I VU;have Ux:=I gx;clear fN gx VU;have hr:=h;obtain ⟨gu,gy,jw,oh,nT,wG,fA,fB,jY,ax,hF,hname,dO,vg,cE,BJ,mX,eG⟩:=dL hr;subst ax;clear hr hF;go_enter Tryz.func54,Tryz.ntmps54
 go_wp2_with (first
  | (go_at_call 89;refine (Rq x.name _ pv).mono ?_;rintro e w2 ⟨rfl,ao⟩;obtain ⟨cb,cG⟩:=ay ao;have cI:w.heap.size < w2.heap.size:=(sq ao.size))
  | (go_at_call 90;refine (Jw x.labels _ _ _ _ _ (dO.ext bu) rfl gg Zb.out).mono ?_;rintro e w3 ⟨rfl,bd⟩;obtain ⟨cX,hf3⟩:=ay bd;have ez:w.heap.size < w3.heap.size:=(sq bd.size))
  | (go_at_call 91;refine (WJ x.ai _ _ _ _ _ (mX.ext bu) rfl qv Cd.out).mono ?_;rintro e w4 ⟨rfl,bL⟩;obtain ⟨eA,hf4⟩:=ay bL;have Wy:w.heap.size < w4.heap.size:=(sq bL.size))
  | (go_at_call 92;refine (RI x.ae _ _ _ _ _ (eG.ext bu) rfl iu Ux.out).mono ?_;rintro e w5 ⟨rfl,bt⟩;obtain ⟨kO,j'⟩:=ay bt;have Es:w.heap.size < w5.heap.size:=(sq bt.size))
  | go_in)
 all_goals first
  | (go_ret;refine ⟨?_,bu⟩;refine congrArg (fun b=>Ending.returned (Value.bool b)) ?_;show (_:Bool) = _;(try clear cb cG);(try clear cX hf3);(try clear eA hf4);(try clear kO j');unfold GU;first | (simp [*];done) | (simp [*];omega) | (simp_all;done) | (simp_all;omega))
  | skip
theorem yT (x:nI) (cs:List Value) (F:List Nat) (w:World) (h:rd w x cs F) (hw:(x.wt:Int)≤1048576) :
 Calls Tryz.prog 54 #[.agg cs.toArray] w fun e w'=>e = .returned (.bool (GU x))∧Below w.heap.size w w':=by
 have ga:x.wt = x.name.size+kL aD.wt x.labels+kL bj.wt x.ai+kL bH.wt x.ae:=rfl;obtain ⟨gg,fN⟩:=sW (xs:=x.labels) O;obtain ⟨qv,VU⟩:=Aa (xs:=x.ai) O;obtain ⟨iu,gx⟩:=FQ (xs:=x.ae) O;exact wM x cs F w h O gg fN qv VU iu gx
structure U6 (x:ba):Prop where
 ns:(x.name.size:Int)≤1048576
 ll:(x.labels.length:Int)≤1048576
 ls:∀l∈x.labels,(l.key.size:Int)≤1048576∧(l.value.size:Int)≤1048576
 tl:(x.aT.length:Int)≤1048576
 ts:∀l∈x.aT,(l.key.size:Int)≤1048576∧(l.value.size:Int)≤1048576
structure Xl (x:nI):Prop where
 ns:(x.name.size:Int)≤1048576
 ll:(x.labels.length:Int)≤1048576
 ls:∀l∈x.labels,(l.key.size:Int)≤1048576∧(l.value.size:Int)≤1048576
 nl:(x.ai.length:Int)≤1048576
 Pn:∀l∈x.ai,VX l
 tl:(x.ae.length:Int)≤1048576
 ts:∀l∈x.ae,VY l
theorem U6.oy (x:ba) (hw:(x.wt:Int)≤1048576):U6 x:=by
 have ga:x.wt = x.name.size+kL aD.wt x.labels+kL iU.wt x.aT:=rfl;obtain ⟨gg,fN⟩:=sW (xs:=x.labels) O;obtain ⟨iu,gx⟩:=BH (xs:=x.aT) O;exact ⟨O,gg,fN,iu,gx⟩
theorem Xl.oy (x:nI) (hw:(x.wt:Int)≤1048576):Xl x:=by
 have ga:x.wt = x.name.size+kL aD.wt x.labels+kL bj.wt x.ai+kL bH.wt x.ae:=rfl;obtain ⟨gg,fN⟩:=sW (xs:=x.labels) O;obtain ⟨qv,VU⟩:=Aa (xs:=x.ai) O;obtain ⟨iu,gx⟩:=FQ (xs:=x.ae) O;exact ⟨O,gg,fN,qv,VU,iu,gx⟩
theorem aqB (nm:ByteArray) (xs:List ag):(F7 nm xs).length≤xs.length:=by unfold F7;rw [List.length_map];exact List.length_filter_le _ _
theorem alL {nm:ByteArray} {xs:List ag} {a b:Int} (h:vU (F7 nm xs) = some (a,b)):KF nm xs = .tuple #[.int .i64 a,.int .i64 b,.int .i64 (F7 nm xs).length,.bool true]:=by unfold KF;rw [h]
theorem alM {nm:ByteArray} {xs:List ag} (h:vU (F7 nm xs) = none):KF nm xs = .tuple #[.int .i64 0,.int .i64 0,.int .i64 0,.bool false]:=by unfold KF;rw [h]
def Ch (x:aU) (h:ba):Bool:=match vU (F7 h.name x.J) with
 | none=>false
 | some (a,b)=>decide (a≤h.aw)&&(decide (b≤h.mem)&&decide (((F7 h.name x.J).length:Int)≤h.aq))
def dY (x:aU) (h:ba):Bool:=Aj h&&Ch x h
def dQ (a b:ba):Bool:=Op.bytesLess a.name.toList b.name.toList
def jT (x:aU) (p:ag):Bool:=GU p.aS&&((decide (1≤p.seq)&&decide (p.seq≤x.next - 1))&&((p.on.toList == []) || decide (0≤pK (iM p.on) x.aa)))
def dw (a b:ag):Bool:=Op.bytesLess a.aS.name.toList b.aS.name.toList
def cV (xs:List ag) (s:Int):Bool:=xs.any fun q=>q.seq == s
def DN (xs:List ag) (k:Nat):Bool:=match xs[k]? with | none=>false | some p=>!(cV (xs.take k) p.seq)
theorem sG {xs:List ag} {k:Nat} (h:k < xs.length):DN xs k = !(cV (xs.take k) xs[k].seq):=by unfold DN;rw [List.getElem?_eq_getElem h]
def Em (x:aU):Bool:=decide ((x.aa.length:Int)≤8)&&(decide ((x.J.length:Int)≤12)&&((decide (1≤x.next)&&decide (x.next≤1000000000))&&zL x.weights.pack x.weights.af x.weights.al))
def iI (x:aU):Bool:=Em x&&((List.range x.aa.length).all (bI (dY x) dQ x.aa)&&((List.range x.J.length).all (bI (jT x) dw x.J)&&(List.range x.J.length).all (DN x.J)))
theorem oU {x:aU} (h:Em x = false):iI x = false:=by unfold iI;rw [h];rfl
theorem dW {x:aU} {k:Nat} (hk:k < x.aa.length) (h:bI (dY x) dQ x.aa k = false):iI x = false:=by unfold iI;rw [YF hk h];simp
theorem jP {x:aU} {k:Nat} (hk:k < x.J.length) (h:bI (jT x) dw x.J k = false):iI x = false:=by unfold iI;rw [YF hk h];simp
theorem DR {x:aU} {k:Nat} (hk:k < x.J.length) (h:DN x.J k = false):iI x = false:=by unfold iI;rw [YF hk h];simp
theorem OX {x:aU} (h0:Em x = true) (h1:∀j,j < x.aa.length→bI (dY x) dQ x.aa j = true) (h2:∀j,j < x.J.length→bI (jT x) dw x.J j = true) (h3:∀j,j < x.J.length→DN x.J j = true):iI x = true:=by
 unfold iI;rw [h0,YG h1,YG h2,YG h3];rfl
theorem pV {α:Type} {ok:α→Bool} {less:α→α→Bool} {xs:List α} {v:Bool} (h:0 < xs.length) (e:ok xs[0] = v):bI ok less xs 0 = v:=by rw [b8 h,e]
theorem nM {α:Type} {ok:α→Bool} {less:α→α→Bool} {xs:List α} {j:Nat} {v u:Bool} (h:j+1 < xs.length) (e:ok xs[j+1] = v) (e2:less xs[j] xs[j+1] = u):bI ok less xs (j+1) = (v&&u):=by rw [yS h,e,e2]
theorem ZH {x:aU} {h:ba} (e:vU (F7 h.name x.J) = none):Ch x h = false:=by unfold Ch;rw [e]
theorem Sz {x:aU} {h:ba} {a b:Int} (e:vU (F7 h.name x.J) = some (a,b)):Ch x h = (decide (a≤h.aw)&&(decide (b≤h.mem)&&decide (((F7 h.name x.J).length:Int)≤h.aq))):=by unfold Ch;rw [e]
theorem E8 (x:aU) (h:ba):∃(a b n:Int) (ub:Bool),KF h.name x.J = .tuple #[.int .i64 a,.int .i64 b,.int .i64 n,.bool ub]∧Ch x h = (ub&&(decide (a≤h.aw)&&(decide (b≤h.mem)&&decide (n≤h.aq))))∧0≤n∧n≤x.J.length:=by
 cases e:vU (F7 h.name x.J) with
 | none=>exact ⟨0,0,0,false,alM e,by rw [ZH e];rfl,O,O⟩
 | some ab =>obtain ⟨a,b⟩:=ab;have:=aqB h.name x.J;exact ⟨a,b,(F7 h.name x.J).length,true,alL e,by rw [Sz e];rfl,O,O⟩
theorem Sl.Ec {w:World} {xs:List ag} {A:Option Addr} {c:Nat} {F:List Nat} (h:Sl w xs A c F):∀p∈xs,bv p.seq:=by
 intro p hp;obtain ⟨k,hk,rfl⟩:=List.getElem_of_mem hp;obtain ⟨b,o,ck,Fk,_,_,_,hr,_⟩:=h.get hk;obtain ⟨gV,gW,lF,iR,iT,mV,dD,dF,iH,ax,hF,nY,iE,rF,rG,oZ,je,dN,ed,hseq⟩:=kE hr;exact hseq
end Go.Proofs.YtjahcnjmjahbaaaGreat
namespace Go.Proofs.YtjahcnjmjahbaaaGreat
open Go.ChangeShapes Go.WideShapes Go.ChangeAt Go.RowKit
set_option linter.unusedVariables false
set_option linter.unusedSimpArgs false
open Go.Maps (Keyed)
theorem NY {H:Type} {P:Program} {w:World} {t k e:TypeId} {b n:Nat} {D:DataW H} (h:w.ownsMap P k (plainElem P e) b n D) (K:Keyed P k) (ht:P.underlying t = some (.map k e)) (he:P.underlying e = some .bool) (hz:(zeroValue e).run P w = .ok (.bool false) w)
 {key:Value} {kl:Lit} (cc:keyOf P k key = some kl) {c:Bool} (cL:D.atKey kl (.lit (.bool false)) = .lit (.bool c)):(Instr.lookup t (.map (some b)) key false).run P w = .ok (.bool c) w:=by
 obtain ⟨v,ps,hrun,hv⟩:=h.lookup K ht hz (plainElem_bool he false) cc;rw [cL] at hv;unfold plainElem at hv;rw [he] at hv;cases v <;> simp at hv
 obtain ⟨rfl,_⟩:=hv;exact hrun
def Ex (xs:List ag):DataW Unit:=xs.foldl (fun D p=>D.put (.int .i64 p.seq) (.lit (.bool true))) (.map [])
theorem J3 (xs:List ag) (p:ag):Ex (xs++[p]) = (Ex xs).put (.int .i64 p.seq) (.lit (.bool true)):=by unfold Ex;rw [List.foldl_append];rfl
theorem aqk (s:Int) (hs:bv s):WideAt.IsKeyLit (.int .i64 s):=by
 simp [WideAt.IsKeyLit]
theorem TK (s:Int) (hs:bv s):∀(xs:List ag) (D:DataW Unit) (c:Bool),Maps.IsMap D→D.atKey (.int .i64 s) (.lit (.bool false)) = .lit (.bool c) →
 (xs.foldl (fun D p=>D.put (.int .i64 p.seq) (.lit (.bool true))) D).atKey (.int .i64 s) (.lit (.bool false)) = .lit (.bool (c || cV xs s))
 | [],D,c,_,h=>by simpa [cV] using h
 | p :: xs,D,c,hD,h=>by
   rw [List.foldl_cons];by_cases e:p.seq = s
   ·rw [TK s hs xs _ true (hD.put _ _) (by rw [e];exact Maps.atKey_put_same hD (aqk s hs) _ _)];simp [cV,e]
   ·rw [TK s hs xs _ c (hD.put _ _) (by rw [Maps.atKey_put_other (by intro h2;apply e;injection h2 with _ h3;exact h3.symm)];exact h)];have e2:(p.seq == s) = false:=(by simpa using e);simp [cV,e2]
theorem aeY (xs:List ag) (s:Int) (hs:bv s):(Ex xs).atKey (.int .i64 s) (.lit (.bool false)) = .lit (.bool (cV xs s)):=by
 have h:=TK s hs xs (.map []) false Maps.isMap_empty rfl;simpa [Ex] using h
theorem Oy:Keyed Tryz.prog 3:=Maps.int_keyed Tryz.underlying3
theorem abl (w:World):(zeroValue 4).run Tryz.prog w = .ok (.bool false) w:=by kernel_rfl
theorem grown_of {w w':World} (hb:Below w.heap.size w w'):w.grownBy w' none:=⟨hb.os,hb.tape,hb.output,hb.size,fun k hk _=>hb.block k hk⟩
end Go.Proofs.YtjahcnjmjahbaaaGreat
