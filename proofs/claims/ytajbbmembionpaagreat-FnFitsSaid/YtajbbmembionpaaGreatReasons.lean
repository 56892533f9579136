/- ReasonsFor, of the program and of the reference. No condition. -/
import Derived.Test.YtajbbmembionpaaGreatMarksP
namespace Go.Proofs.YtajbbmembionpaaGreat
open Go.ChangeShapes Go.WideShapes Go.ChangeAt Go.RowKit
set_option linter.unusedVariables false
set_option linter.unusedSimpArgs false
set_option maxHeartbeats 4000000
set_option maxRecDepth 100000
def lH (x:aU) (p:nI) (hs:List aR):List Int:=hs.map fun h=>oH h.name x p
theorem NQ {x:aU} {p:nI} {hs:List aR} {k:Nat} (h:k < hs.length):lH x p (hs.take (k+1)) = lH x p (hs.take k)++[oH hs[k].name x p]:=by
 unfold lH;rw [List.take_succ_eq_append_getElem h,List.map_append];rfl
theorem DW (x:aU) (p:nI) (hs:List aR):(lH x p hs).length = hs.length:=by unfold lH;rw [List.length_map]
theorem RV (x:aU) (p:nI) (hs:List aR) (k:Nat):(lH x p (hs.take k)).length≤k:=by rw [DW,List.length_take];omega
theorem aY.P4 {w:World} {B:Nat} {xs:List Int} {ds:List Value} {n:Int} (h:aY w B xs ds []) (X:bt n):aY w B (xs++[n]) (ds++[.int .i64 n]) [] :=
 ⟨h.rd.append (.single (jL w n X)),List.nodup_nil,(fun b U=>by cases U),(fun b U=>by cases U)⟩
theorem ad1 (nm:ByteArray) (x:aU) (p:nI):bt (oH nm x p):=by have:=Zo nm x p;exact ⟨J,J⟩
theorem WA (x:aU) (p:nI) (cs ps:List Value) (F G:List Nat) (w:World) (h:rd w x cs F) (h':rd w p ps G) (hw:(x.wt:Int)≤1048576) (eP:(p.wt:Int)≤1048576) :
 Calls Tryz.prog 12 #[.agg cs.toArray,.agg ps.toArray] w fun e w'=>∃A c G,e = .returned (.slice A (lH x p x.V).length c)∧am w' w.heap.size (lH x p x.V) [.slice A (lH x p x.V).length c] G∧Below w.heap.size w w':=by
 have gv:x.wt = kL aR.wt x.V+kL ag.wt x.O:=rfl;have cI:(x.V.length:Int)≤1048576:=by have:=gJ aR.wt x.V;omega
 have HW:=I hw;have Uc:=I eP;clear hw eP gv;have hr:=h;have dd:=h';obtain ⟨bG,bD,fQ,dn,bW,jg,aD,hF,bQ,dM,hnext,aV,aP,aW⟩:=aO hr;obtain ⟨bY,bZ,iq,eU,eX,jV,bg,bn,dK,jU,hG,jW,dA,kQ,lg,lG,iO,bK⟩:=dL dd;subst aD jU;clear hF hG hr dd;go_enter Tryz.func12,Tryz.ntmps12;go_wp2_with fail
 obtain ⟨w0,hw0⟩:∃w0,(w.alloc (.cells #[.slice bG x.V.length bD,.slice dn x.O.length bW,.int .i64 x.next,.int .i64 x.weights.pack,.int .i64 x.weights.af,.int .i64 x.weights.an] 29)).alloc (.cells #[.string p.name,.slice bY p.labels.length bZ,.int .i64 p.az,.int .i64 p.mem,.int .i64 p.aw,.slice eU p.ai.length eX,.slice bg p.ae.length bn] 35) = w0:=⟨_,rfl⟩;try rw [hw0]
 have c0:w0.cell? ⟨w.heap.size,0,none⟩ = some (.slice bG x.V.length bD):=by rw [← hw0,World.cell?_of_block (heap_alloc_old _ _ S'),cell_of_row _ _ _ _ _ _ (heap_alloc_new w _)];rfl
 have c1:w0.cell? ⟨w.heap.size,1,none⟩ = some (.slice dn x.O.length bW):=by rw [← hw0,World.cell?_of_block (heap_alloc_old _ _ S'),cell_of_row _ _ _ _ _ _ (heap_alloc_new w _)];rfl
 have c2:w0.cell? ⟨w.heap.size,2,none⟩ = some (.int .i64 x.next):=by rw [← hw0,World.cell?_of_block (heap_alloc_old _ _ S'),cell_of_row _ _ _ _ _ _ (heap_alloc_new w _)];rfl
 have c3:w0.cell? ⟨w.heap.size,3,none⟩ = some (.int .i64 x.weights.pack):=by rw [← hw0,World.cell?_of_block (heap_alloc_old _ _ S'),cell_of_row _ _ _ _ _ _ (heap_alloc_new w _)];rfl
 have c4:w0.cell? ⟨w.heap.size,4,none⟩ = some (.int .i64 x.weights.af):=by rw [← hw0,World.cell?_of_block (heap_alloc_old _ _ S'),cell_of_row _ _ _ _ _ _ (heap_alloc_new w _)];rfl
 have c5:w0.cell? ⟨w.heap.size,5,none⟩ = some (.int .i64 x.weights.an):=by rw [← hw0,World.cell?_of_block (heap_alloc_old _ _ S'),cell_of_row _ _ _ _ _ _ (heap_alloc_new w _)];rfl
 have d0:w0.cell? ⟨w.heap.size+1,0,none⟩ = some (.string p.name):=by rw [← hw0];simp
 have d1:w0.cell? ⟨w.heap.size+1,1,none⟩ = some (.slice bY p.labels.length bZ):=by rw [← hw0];simp
 have d2:w0.cell? ⟨w.heap.size+1,2,none⟩ = some (.int .i64 p.az):=by rw [← hw0];simp
 have d3:w0.cell? ⟨w.heap.size+1,3,none⟩ = some (.int .i64 p.mem):=by rw [← hw0];simp
 have d4:w0.cell? ⟨w.heap.size+1,4,none⟩ = some (.int .i64 p.aw):=by rw [← hw0];simp
 have d5:w0.cell? ⟨w.heap.size+1,5,none⟩ = some (.slice eU p.ai.length eX):=by rw [← hw0];simp
 have d6:w0.cell? ⟨w.heap.size+1,6,none⟩ = some (.slice bg p.ae.length bn):=by rw [← hw0];simp
 have im:Below w.heap.size w w0:=by rw [← hw0];exact ak (ak (aj _) _) _
 have fZ:w0.heap.size = w.heap.size+1+1:=by rw [← hw0];simp
 have cJ:w.heap.size < w0.heap.size:=by omega
 have cq:w.heap.size+1 < w0.heap.size:=by omega
 have xT:=I fZ;clear hw0 fZ;go_loopw [5,12] (fun v i wr=>∃(k:Nat) (ds:List Value),k≤x.V.length∧i = .int .i64 k∧wr.ownsRow w0.heap.size 3 1 v (lH x p (x.V.take k)).length ds∧aY w w0.heap.size (lH x p (x.V.take k)) ds []∧Below w0.heap.size w0 wr) (fun _ i _=>x.V.length - (intOf i).toNat)
 case atStart =>refine ⟨0,[],Nat.zero_le _,rfl,?_,aY.nil _ _,ak (aj _) _⟩;rw [← xT.out];have:=World.ownsRow_made (base:=w0.heap.size) (e:=3) (size:=1) w0 #[] 0 S' j4 rfl;simpa [lH] using this
 case round =>
  obtain ⟨k,ds,hk,rfl,bi,cA,aK⟩:=hrel;by_cases av:k < x.V.length
  ·obtain ⟨b,o,ck,Fk,rfl,o9,hbs,hr,bA,hc⟩:=Sl.get (α:=aR) (A:=bG) (c:=bD) bQ av;obtain ⟨jM,jO,sN,jE,jF,sO,aD,su,zM,qY,Gt,Gw,xg,qA⟩:=iy hr;subst aD;obtain ⟨q0,q1,q2,q3,q4,q5⟩:=oI 6 hc;clear hc;have b4:Below w.heap.size w wr:=ah im (aK.mono J);replace q0:=r' b4 q0 hbs;replace q1:=r' b4 q1 hbs;replace q2:=r' b4 q2 hbs;replace q3:=r' b4 q3 hbs;replace q4:=r' b4 q4 hbs;replace q5:=r' b4 q5 hbs;have WU:b < wr.heap.size:=(by have:=b4.size;omega);have hK:=(ay aK).1;replace c0:=(hK _ _ cJ).trans c0;replace c1:=(hK _ _ cJ).trans c1;replace c2:=(hK _ _ cJ).trans c2;replace c3:=(hK _ _ cJ).trans c3;replace c4:=(hK _ _ cJ).trans c4;replace c5:=(hK _ _ cJ).trans c5;replace d0:=(hK _ _ cq).trans d0;replace d1:=(hK _ _ cq).trans d1;replace d2:=(hK _ _ cq).trans d2;replace d3:=(hK _ _ cq).trans d3;replace d4:=(hK _ _ cq).trans d4;replace d5:=(hK _ _ cq).trans d5;replace d6:=(hK _ _ cq).trans d6;clear hK;have tX:w.heap.size < wr.heap.size:=(by have:=aK.size;omega);have Hu:w.heap.size+1 < wr.heap.size:=(by have:=aK.size;omega);have s7:(lH x p (x.V.take k)).length≤k:=RV x p x.V k;go_wp2_with fail
   first
    | (refine (NC x p _ _ _ _ x.V[k].name _ (aJ h rN) (aJ h' rN) HW.out Uc.out).mono ?_
       skip
       rintro e wn ⟨rfl,X⟩)
    | (refine aF _ U' U' (aj _) ?_
       repeat (first
        | (apply aG
           case hw=>rfl
           simp only [Act.put,pz])
        | (apply aH
           case hw=>rfl
           case h =>
            intro wq hq;have dE:=(aB hq).1;have lJ:=(aB hq).2;go_simp
            first
             | exact ⟨hq,rfl⟩
             | exact ⟨aQ hq _,rfl⟩
             | (refine (NC x p _ _ _ _ x.V[k].name _ (aJ h AU) (aJ h' AU) HW.out Uc.out).mono ?_;skip;rintro e w2 ⟨rfl,aq⟩;exact ⟨rfl,aI hq aq⟩)
             | (simp only [↓IntWalk.iteOmega];exact ⟨hq,rfl⟩)
           simp only [Act.put,pz]))
       refine aN ?_;intro wn X
       replace X:=X.out)
   obtain ⟨jI,ky⟩:=ay X
   first
    | have i7:wr.heap.size < wn.heap.size:=(sq X.size)
    | have i7:wr.heap.size≤wn.heap.size:=(sq X.size)
   have bx:Below w0.heap.size w0 wn:=(by first | exact ah aK X | exact ah (ak aK _) X);first | have zq:=mG bi X | have zq:=mG (bi.alloc _) X
   go_wp2_with (
    at_builtin
    go_must (refine lC Be M _ _ M _ _ _ _ _ zq M [.int .i64 (oH x.V[k].name x p)] iN M et J J MN ?_)
    intro v2 w2 dB fe cC)
   have aq:Below w0.heap.size w0 w2:=lS (B:=w0.heap.size) zq fe bx (by have:=bx.size;omega);exact ⟨⟨k+1,_,J,N',(by rw [NQ av,List.length_append];exact dB),(by rw [NQ av];exact cA.P4 (ad1 _ _ _)),aq⟩,by simp [intOf];omega⟩
  ·have bI:k = x.V.length:=J;subst bI;rw [List.take_length] at bi cA;have b4:Below w.heap.size w wr:=ah im aK;obtain ⟨Al,cl,Gl,rfl,j0⟩:=am.oJ bi ((aY.bm cA (fun b U=>by cases U) b4.size)) (fun _ _ U=>by cases U);have s7:=DW x p x.V;exact C8
def En (l:List Int) (j:Nat):Int:=((l.filter fun r=>r == (j:Int)).length:Nat)
def sS (l:List Int):List Int:=[En l 0,En l 1,En l 2,En l 3,En l 4,En l 5,En l 6]
theorem apS (l:List Int) (r:Int) (j:Nat):En (l++[r]) j = En l j+if r = (j:Int) then 1 else 0:=by
 unfold En;rw [List.filter_append,List.length_append];by_cases h:r = (j:Int)
 ·rw [if_pos h];simp [h]
 ·rw [if_neg h];simp [h]
theorem LW (l:List Int) (j:Nat):0≤En l j∧En l j≤l.length:=by
 unfold En;have:=List.length_filter_le (fun r=>r == (j:Int)) l;omega
theorem Xt (l:List Int) {j:Nat} (hj:j < 7):(sS l)[j]? = some (En l j):=by
 obtain rfl | rfl | rfl | rfl | rfl | rfl | rfl:j = 0∨j = 1∨j = 2∨j = 3∨j = 4∨j = 5∨j = 6:=by omega
 all_goals rfl
theorem adE (l:List Int) {j:Nat} (hj:j < 7):sS (l++[(j:Int)]) = (sS l).set j (En l j+1):=by
 obtain rfl | rfl | rfl | rfl | rfl | rfl | rfl:j = 0∨j = 1∨j = 2∨j = 3∨j = 4∨j = 5∨j = 6:=by omega
 all_goals simp [sS,apS]
theorem adF (l:List Int) (hl:(l.length:Int)≤1048576):∀x∈sS l,bt x:=by
 intro x hx;obtain ⟨j,hj,rfl⟩:=List.getElem_of_mem hx;have h:=Xt l (j:=j) (by simpa [sS] using hj);rw [List.getElem?_eq_getElem hj] at h;have e:(sS l)[j] = En l j:=by simpa using h
 have:=LW l j;rw [e];exact ⟨J,J⟩
def OO (xs:List Int):List Value:=xs.map fun n=>.int .i64 n
theorem aiJ {xs:List Int} {j:Nat} {n:Int} (h:xs[j]? = some n):(OO xs)[j]? = some (.int .i64 n):=by unfold OO;rw [List.getElem?_map,h];rfl
theorem aiK (xs:List Int) (j:Nat) (n:Int):OO (xs.set j n) = (OO xs).set j (.int .i64 n):=by unfold OO;rw [List.map_set]
theorem dc.put {w:World} {g:Nat} {t:TypeId} {N:Nat} {ds:List Value} (h:dc w g t N ds) {i:Nat} (hi:i < ds.length) (u:Value):dc (w.setCell ⟨g,i,none⟩ u) g t N (ds.set i u):=by
 obtain ⟨cs,h,rfl,hl,hc⟩:=h;refine ⟨cs.setIfInBounds i u,?_,S',by simpa using hl,fun j v hv=>?_⟩
 ·simp [World.setCell,Array.getElem?_modify,h]
 ·by_cases lR:i = j
  ·subst lR;rw [List.getElem?_set_self hi] at hv;rw [Array.getElem?_setIfInBounds_self_of_lt J];exact hv
  ·rw [List.getElem?_set_ne lR] at hv;rw [Array.getElem?_setIfInBounds_ne lR];exact hc j v hv
theorem apT {j:Nat} (hj:j < 7):(madeCells (Value.int .i64 0).cells (7 * 1))[j]? = some (.int .i64 0):=by
 have e:(Value.int .i64 0).cells = #[.int .i64 0]:=rfl;rw [e];simp [madeCells,hj,Nat.mod_one]
theorem dc.IS (w:World) (t:TypeId):dc (w.alloc (.cells (madeCells (Value.int .i64 0).cells (7 * 1)) t)) w.heap.size t 7 (OO (sS [])) :=
 ⟨_,heap_alloc_new w _,by rw [size_madeCells],by simp [OO,sS],fun j u hu=>by
   have hj:=(List.getElem?_eq_some_iff.1 hu).1;have IT:j < 7:=(by simpa [OO,sS] using hj);rw [apT IT,← hu];obtain rfl | rfl | rfl | rfl | rfl | rfl | rfl:j = 0∨j = 1∨j = 2∨j = 3∨j = 4∨j = 5∨j = 6:=by omega
   all_goals rfl⟩
theorem aY.OO {w:World} {B:Nat} {xs:List Int} (h:∀x∈xs,bt x):aY w B xs (OO xs) [] :=
 ⟨Fv w xs h,List.nodup_nil,(fun b U=>by cases U),(fun b U=>by cases U)⟩
theorem Xu (x:aU) (p:nI) (hs:List aR) {k:Nat} (hk:k < (lH x p hs).length):∃j:Nat,j < 7∧(lH x p hs)[k] = j:=by
 have h:(lH x p hs)[k] = oH (hs[k]'(by rw [DW] at hk;exact hk)).name x p:=by simp [lH]
 have:=Zo (hs[k]'(by rw [DW] at hk;exact hk)).name x p;exact ⟨((lH x p hs)[k]).toNat,J,J⟩
theorem abr (x:aU) (p:nI) (cs ps:List Value) (F G:List Nat) (w:World) (h:rd w x cs F) (h':rd w p ps G) (hw:(x.wt:Int)≤1048576) (eP:(p.wt:Int)≤1048576) :
 Calls Tryz.prog 13 #[.agg cs.toArray,.agg ps.toArray] w fun e w'=>∃A c G,e = .returned (.slice A (sS (lH x p x.V)).length c)∧am w' w.heap.size (sS (lH x p x.V)) [.slice A (sS (lH x p x.V)).length c] G∧Below w.heap.size w w':=by
 have gv:x.wt = kL aR.wt x.V+kL ag.wt x.O:=rfl;have cI:(x.V.length:Int)≤1048576:=by have:=gJ aR.wt x.V;omega
 have Bt:=DW x p x.V;have WH:=I (fun k (hk:k < (lH x p x.V).length)=>Xu x p x.V hk);have WI:=I (fun (u:World) (cs ps:List Value) (F G:List Nat) (h:rd u x cs F) (h':rd u p ps G)=>WA x p cs ps F G u h h' hw eP);have HW:=I hw;have Uc:=I eP;clear hw eP gv;generalize lH x p x.V = rs at Bt WH WI;have hrs:(rs.length:Int)≤1048576:=by omega
 clear Bt;have hr:=h;have dd:=h';obtain ⟨bG,bD,fQ,dn,bW,jg,aD,hF,bQ,dM,hnext,aV,aP,aW⟩:=aO hr;obtain ⟨bY,bZ,iq,eU,eX,jV,bg,bn,dK,jU,hG,jW,dA,kQ,lg,lG,iO,bK⟩:=dL dd;subst aD jU;clear hF hG hr dd;go_enter Tryz.func13,Tryz.ntmps13;obtain ⟨w0,hw0⟩:∃w0,(w.alloc (.cells #[.slice bG x.V.length bD,.slice dn x.O.length bW,.int .i64 x.next,.int .i64 x.weights.pack,.int .i64 x.weights.af,.int .i64 x.weights.an] 29)).alloc (.cells #[.string p.name,.slice bY p.labels.length bZ,.int .i64 p.az,.int .i64 p.mem,.int .i64 p.aw,.slice eU p.ai.length eX,.slice bg p.ae.length bn] 35) = w0:=⟨_,rfl⟩;have c0:w0.cell? ⟨w.heap.size,0,none⟩ = some (.slice bG x.V.length bD):=by rw [← hw0,World.cell?_of_block (heap_alloc_old _ _ S'),cell_of_row _ _ _ _ _ _ (heap_alloc_new w _)];rfl
 have c1:w0.cell? ⟨w.heap.size,1,none⟩ = some (.slice dn x.O.length bW):=by rw [← hw0,World.cell?_of_block (heap_alloc_old _ _ S'),cell_of_row _ _ _ _ _ _ (heap_alloc_new w _)];rfl
 have c2:w0.cell? ⟨w.heap.size,2,none⟩ = some (.int .i64 x.next):=by rw [← hw0,World.cell?_of_block (heap_alloc_old _ _ S'),cell_of_row _ _ _ _ _ _ (heap_alloc_new w _)];rfl
 have c3:w0.cell? ⟨w.heap.size,3,none⟩ = some (.int .i64 x.weights.pack):=by rw [← hw0,World.cell?_of_block (heap_alloc_old _ _ S'),cell_of_row _ _ _ _ _ _ (heap_alloc_new w _)];rfl
 have c4:w0.cell? ⟨w.heap.size,4,none⟩ = some (.int .i64 x.weights.af):=by rw [← hw0,World.cell?_of_block (heap_alloc_old _ _ S'),cell_of_row _ _ _ _ _ _ (heap_alloc_new w _)];rfl
 have c5:w0.cell? ⟨w.heap.size,5,none⟩ = some (.int .i64 x.weights.an):=by rw [← hw0,World.cell?_of_block (heap_alloc_old _ _ S'),cell_of_row _ _ _ _ _ _ (heap_alloc_new w _)];rfl
 have d0:w0.cell? ⟨w.heap.size+1,0,none⟩ = some (.string p.name):=by rw [← hw0];simp
 have d1:w0.cell? ⟨w.heap.size+1,1,none⟩ = some (.slice bY p.labels.length bZ):=by rw [← hw0];simp
 have d2:w0.cell? ⟨w.heap.size+1,2,none⟩ = some (.int .i64 p.az):=by rw [← hw0];simp
 have d3:w0.cell? ⟨w.heap.size+1,3,none⟩ = some (.int .i64 p.mem):=by rw [← hw0];simp
 have d4:w0.cell? ⟨w.heap.size+1,4,none⟩ = some (.int .i64 p.aw):=by rw [← hw0];simp
 have d5:w0.cell? ⟨w.heap.size+1,5,none⟩ = some (.slice eU p.ai.length eX):=by rw [← hw0];simp
 have d6:w0.cell? ⟨w.heap.size+1,6,none⟩ = some (.slice bg p.ae.length bn):=by rw [← hw0];simp
 have im:Below w.heap.size w w0:=by rw [← hw0];exact ak (ak (aj _) _) _
 have fZ:w0.heap.size = w.heap.size+1+1:=by rw [← hw0];simp
 have cJ:w.heap.size < w0.heap.size:=by omega
 have cq:w.heap.size+1 < w0.heap.size:=by omega
 have xT:=I fZ;have oC:=I hw0;clear hw0 fZ;have zf:∀wq:World,(Instr.makeSlice 42 (.int .i64 7) (.int .i64 7)).run Tryz.prog wq = .ok (.slice (some ⟨wq.heap.size,0,none⟩) 7 7) (wq.alloc (.cells (madeCells (Value.int .i64 0).cells (7 * 1)) 3)):=fun wq=>j7 (P:=Tryz.prog) Be J 7 J wq;go_wp2_with fail
 try rw [oC.out]
 refine (WI.out _ _ _ _ _ (aJ h (ak im _)) (aJ h' (ak im _))).mono ?_;rintro e w3 ⟨A3,c3,G3,rfl,hO3,bd⟩;have P':=(dc.IS w0 3).bm (w':=w3) (bd.block _ S');have eC:Below w.heap.size w w3:=ah (ak im _) bd;have hgz:w0.heap.size < w3.heap.size:=sq bd.size;replace hO3:=hO3.mono (B':=w.heap.size+1+1+1) (by rw [← xT.out];simp);rw [xT.out] at P' hgz;go_wp2_with fail
 go_loopw [13] (fun i wr=>∃(k:Nat),k≤rs.length∧i = .int .i64 k∧dc wr (w.heap.size+1+1) 3 7 (OO (sS (rs.take k)))∧am wr (w.heap.size+1+1+1) rs [.slice A3 rs.length c3] G3∧Below w.heap.size w wr) (fun i _=>rs.length - (intOf i).toNat)
 case atStart=>exact ⟨0,Nat.zero_le _,rfl,P',hO3,eC⟩
 case round =>
  obtain ⟨k,hk,rfl,hF,hO,aK⟩:=hrel;by_cases av:k < rs.length
  ·obtain ⟨j,IT,hj⟩:=WH.out k av;have Lc:=hO.rd;obtain ⟨b,o,ck,Fk,rfl,o9,hbs,hr,bA,hc⟩:=Sl.get (α:=Int) (A:=A3) (c:=c3) Lc av;obtain ⟨aD,su,fX⟩:=hr;subst aD su;have q0:wr.cell? ⟨b,o+k,none⟩ = some (.int .i64 rs[k]):=(by have:=hc 0 _ rfl;rwa [show o+(k * bb.size Int+0) = o+k from by show o+(k * 1+0) = _;omega] at this);rw [hj] at q0;clear hc;have yK:=LW (rs.take k) j;have By:((rs.take k).length:Int)≤1048576:=(by rw [List.length_take];omega);have n9:sS (rs.take (k+1)) = (sS (rs.take k)).set j (En (rs.take k) j+1):=(by rw [List.take_succ_eq_append_getElem av,hj,adE _ IT]);have p0:wr.cell? ⟨w.heap.size+1+1,j,none⟩ = some (.int .i64 (En (rs.take k) j)):=(by have:=hF.cells j _ (aiJ (Xt (rs.take k) IT));rwa [Nat.zero_add] at this);have pf:=hF.frozen j;have lv:=hF.lt;have lX:=hF.put (i:=j) (by simpa [OO,sS] using IT) (.int .i64 (En (rs.take k) j+1));rw [← aiK,← n9] at lX;have bM:=hO.setCell (p:=⟨w.heap.size+1+1,j,none⟩) Kv (.int .i64 (En (rs.take k) j+1));have aq:=aC aK (p:=⟨w.heap.size+1+1,j,none⟩) (by show w.heap.size≤w.heap.size+1+1;omega) (.int .i64 (En (rs.take k) j+1));have sm:=I n9;clear n9 hj;generalize En (rs.take k) j = z at *;have cJ:0≤z:=yK.1;have cq:z≤1048576:=J;have jx:(j:Int) < 7:=J;clear yK By;go_wp2;exact ⟨⟨k+1,J,N',lX,bM,aq⟩,by simp [intOf];omega⟩
  ·have bI:k = rs.length:=J;subst bI;rw [List.take_length] at hF;have yh:=am.Ep (c:=7) hF (aY.OO (adF rs hrs)) (by simp [sS]) j4;go_wp2;go_ret
   exact ⟨_,_,_,rfl,yh.mono J,aK⟩
end Go.Proofs.YtajbbmembionpaaGreat
