/- Marks in plain Lean. No condition. -/
import Derived.Test.YtajbbmembionpaaGreatMet
namespace Go.Proofs.YtajbbmembionpaaGreat
open Go.ChangeShapes Go.WideShapes Go.ChangeAt Go.RowKit
set_option linter.unusedVariables false
set_option linter.unusedSimpArgs false
set_option maxHeartbeats 4000000
set_option maxRecDepth 100000
def qG (a b:Int):Int:=(GX a b).getD 9223372036854775807
theorem Ru {a b:Int} (ha:br a) (X:br b):br (qG a b):=by
 unfold qG;cases h:GX a b with
 | none=>exact ⟨by show _≤(9223372036854775807:Int);omega,by show (9223372036854775807:Int)≤_;omega⟩
 | some t=>exact JJ h ha X
def OT (nm:ByteArray) (x:aU) (p:nI):Int :=
 if pK (iM nm) x.aa < 0 then 0 else
 match vU (F7 nm x.V),x.aa[(pK (iM nm) x.aa).toNat]? with
 | some (a,b),some h=>(CQ (qG a p.az) h.az+CQ (qG b p.mem) h.mem) / 2
 | _,_=>0
def EF (nm:ByteArray) (x:aU):Int :=
 if pK (iM nm) x.aa < 0 then 0 else
 match vU (F7 nm x.V),x.aa[(pK (iM nm) x.aa).toNat]? with
 | some (a,b),some h=>100 - CQ (F7 nm x.V).length h.av
 | _,_=>0
theorem Sm {nm:ByteArray} {x:aU} {p:nI} (h:pK (iM nm) x.aa = -1):OT nm x p = 0:=by unfold OT;rw [h];rfl
theorem Sn {nm:ByteArray} {x:aU} {p:nI} (h:vU (F7 nm x.V) = none):OT nm x p = 0:=by unfold OT;rw [h];simp
theorem Sp {nm:ByteArray} {x:aU} {p:nI} {k:Nat} {a b:Int} (hk:k < x.aa.length) (h:pK (iM nm) x.aa = k) (hs:vU (F7 nm x.V) = some (a,b)):OT nm x p = (CQ (qG a p.az) x.aa[k].az+CQ (qG b p.mem) x.aa[k].mem) / 2:=by
 unfold OT;exact xZ
theorem Sq {nm:ByteArray} {x:aU} (h:pK (iM nm) x.aa = -1):EF nm x = 0:=by unfold EF;rw [h];rfl
theorem Ss {nm:ByteArray} {x:aU} (h:vU (F7 nm x.V) = none):EF nm x = 0:=by unfold EF;rw [h];simp
theorem St {nm:ByteArray} {x:aU} {k:Nat} {a b:Int} (hk:k < x.aa.length) (h:pK (iM nm) x.aa = k) (hs:vU (F7 nm x.V) = some (a,b)):EF nm x = 100 - CQ (F7 nm x.V).length x.aa[k].av:=by
 unfold EF;exact xZ
theorem M' (nm:ByteArray) (x:aU) (p:nI):0≤OT nm x p∧OT nm x p≤100:=by
 unfold OT;split
 ·omega
 ·split
  ·rename_i a b h _ _;have h1:=zJ (qG a p.az) h.az;have h2:=zJ (qG b p.mem) h.mem;omega
  ·omega
theorem ZO (nm:ByteArray) (x:aU):0≤EF nm x∧EF nm x≤100:=by
 unfold EF;split
 ·omega
 ·split
  ·rename_i a b h _ _;have h1:=zJ (F7 nm x.V).length h.av;omega
  ·omega
def Rt (nm:ByteArray) (x:aU) (p:nI):Int :=
 if pK (iM nm) x.aa < 0 then 0 else
 match x.aa[(pK (iM nm) x.aa).toNat]? with
 | none=>0
 | some h=>max 0 (100 - 25 * (BD p.ae 2 h.aT:Int))
theorem SK {nm:ByteArray} {x:aU} {p:nI} (h:pK (iM nm) x.aa = -1):Rt nm x p = 0:=by unfold Rt;rw [h];rfl
theorem SL {nm:ByteArray} {x:aU} {p:nI} {k:Nat} (hk:k < x.aa.length) (h:pK (iM nm) x.aa = k):Rt nm x p = max 0 (100 - 25 * (BD p.ae 2 x.aa[k].aT:Int)):=by
 unfold Rt;rw [h,if_neg J,Int.toNat_natCast,List.getElem?_eq_getElem hk]
theorem ZJ (x:aU) (p:nI) (cs ps:List Value) (F G:List Nat) (nm:ByteArray) (w:World) (h:rd w x cs F) (h':rd w p ps G) (hw:(x.wt:Int)≤1048576) (fN:(p.wt:Int)≤1048576) :
 Calls Tryz.prog 26 #[.agg cs.toArray,.string nm,.agg ps.toArray] w fun e w'=>e = .returned (.int .i64 (Rt nm x p))∧Below w.heap.size w w':=by
 have im:x.wt = kL ba.wt x.aa+kL ag.wt x.V:=rfl;have qB:p.wt = p.name.size+kL ap.wt p.labels+kL aM.wt p.ai+kL bH.wt p.ae:=rfl;have cA:(x.aa.length:Int)≤1048576:=by have:=gJ ba.wt x.aa;omega
 obtain ⟨kR,jA⟩:=FQ (xs:=p.ae) J;have Ux:=I jA;clear jA;obtain ⟨bG,bD,fQ,dn,bW,jg,aE,hF,bQ,dM,hnext,aV,aP,aW⟩:=aO h;obtain ⟨bY,bZ,iq,eU,eX,jV,bg,bn,dK,jU,hG,jW,dA,kQ,lg,lG,iO,bK⟩:=dL h';subst aE jU;rcases yg (iM nm) x.aa with hi | ⟨k,hk,hi⟩
 ·have HF:=I (SK (p:=p) hi);have HI:=I hi;clear hi;go_enter Tryz.func26,Tryz.ntmps26;go_wp2_with fail
  refine (gK x _ _ nm _ (aJ h bJ) cA).mono ?_;rw [HI.out];rintro e w2 ⟨rfl,ar⟩;exact ej
 ·have HF:=I (SL (p:=p) hk hi);have HI:=I hi;clear hi;have e':(kL iU.wt x.aa[k].aT:Int)≤1048576:=by
   exact DJ
  obtain ⟨ot,hxs⟩:=BH e';have Nx:=I hxs;clear hxs;have Gf:=UN p.ae 2 x.aa[k].aT;obtain ⟨b,o,ck,Fk,rfl,o9,hbs,hr,bB,hc⟩:=Sl.get (α:=ba) (A:=bG) (c:=bD) bQ hk;obtain ⟨jM,jO,sN,jE,jF,sO,aE,su,zM,qY,Gt,Gw,xg,qA⟩:=iy hr;subst aE;obtain ⟨q0,q1,q2,q3,q4,q5⟩:=oW 6 hc;clear hc;go_enter Tryz.func26,Tryz.ntmps26;go_wp2_with fail
  refine (gK x _ _ nm _ (aJ h bJ) cA).mono ?_;rw [HI.out];rintro e w2 ⟨rfl,ar⟩;obtain ⟨cq,cL⟩:=ay ar;have cw:w.heap.size+1 < w2.heap.size:=sq ar.size;have ke:w.heap.size < w2.heap.size:=by omega
  have eM:Below w.heap.size w w2:=bJ;replace q5:=r' eM q5 hbs;have uO:b < w2.heap.size:=by omega
  have vi:∀wq,Below w.heap.size w wq→Calls Tryz.prog 45 #[.slice bg p.ae.length bn,.slice jE x.aa[k].aT.length jF,.int .i64 2] wq fun e w'=>e = .returned (.int .i64 (BD p.ae 2 x.aa[k].aT))∧Below wq.heap.size wq w' :=
   fun wq hq=>UO p.ae x.aa[k].aT 2 _ _ _ _ _ _ _ _ _ (bK.ext hq) (qA.ext hq) rfl rfl kR ot Ux.out Nx.out
  have C8:=I vi;clear vi;generalize BD p.ae 2 x.aa[k].aT = z at C8 HF Gf;have rp:(z:Int)≤1048576:=by omega
  have nH:IntKind.i64.wrap (25 * (z:Int)) = 25 * (z:Int):=IntWalk.i64_in _ J;have rn:IntKind.i64.wrap (100 - 25 * (z:Int)) = 100 - 25 * (z:Int):=IntWalk.i64_in _ J;by_cases fd:(100:Int) - 25 * (z:Int)≤0
  ·have hM:max 0 (100 - 25 * (z:Int)) = 0:=J;have HM:=I hM;clear hM;go_wp2_with fail
   refine aF w2 U' U' (aj _) ?_
   repeat ((first | refine aG O ?_ | refine aH _ O Dd ?_);simp only [Act.put,pz])
   exact DX
  ·have Gg:(0:Int) < 100 - 25 * (z:Int):=J;have hM:max 0 (100 - 25 * (z:Int)) = 100 - 25 * (z:Int):=J;have HM:=I hM;clear hM;have gv:(100:Int) - 25 * (z:Int)≤100:=J;go_wp2_with fail
   refine aF w2 U' U' (aj _) ?_
   repeat ((first | refine aG O ?_ | refine aH _ O Dd ?_);simp only [Act.put,pz])
   exact DH
theorem Vn (n:Int) (w:World) (h:n≤100) (h0:-9223372036854775808≤n):Calls Tryz.prog 144 #[.int .i64 n,.int .i64 0,.int .i64 100] w fun e w'=>e = .returned (.int .i64 (max 0 n))∧w' = w:=by
 by_cases Z:n < 0
 ·rw [show max 0 n = 0 by omega];go_enter Tryz.func144,Tryz.ntmps144;go_wp2;go_ret
  exact ⟨rfl,rfl⟩
 ·rw [show max 0 n = n by omega];go_enter Tryz.func144,Tryz.ntmps144;go_wp2;go_ret
  exact ⟨rfl,rfl⟩
theorem ZI (x:aU) (p:nI) (cs ps:List Value) (F G:List Nat) (nm:ByteArray) (w:World) (h:rd w x cs F) (h':rd w p ps G) (hw:(x.wt:Int)≤1048576) (fN:(p.wt:Int)≤1048576) :
 Calls Tryz.prog 102 #[.agg cs.toArray,.string nm,.agg ps.toArray] w fun e w'=>e = .returned (.int .i64 (Rt nm x p))∧Below w.heap.size w w':=by
 have im:x.wt = kL ba.wt x.aa+kL ag.wt x.V:=rfl;have qB:p.wt = p.name.size+kL ap.wt p.labels+kL aM.wt p.ai+kL bH.wt p.ae:=rfl;have cA:(x.aa.length:Int)≤1048576:=by have:=gJ ba.wt x.aa;omega
 obtain ⟨kR,jA⟩:=FQ (xs:=p.ae) J;have Ux:=I jA;clear jA;obtain ⟨bG,bD,fQ,dn,bW,jg,aE,hF,bQ,dM,hnext,aV,aP,aW⟩:=aO h;obtain ⟨bY,bZ,iq,eU,eX,jV,bg,bn,dK,jU,hG,jW,dA,kQ,lg,lG,iO,bK⟩:=dL h';subst aE jU;rcases yg (iM nm) x.aa with hi | ⟨k,hk,hi⟩
 ·have HF:=I (SK (p:=p) hi);have HI:=I hi;clear hi;go_enter Tryz.func102,Tryz.ntmps102;go_wp2_with fail
  refine (gQ x _ _ nm _ (aJ h bJ) cA).mono ?_;rw [HI.out];rintro e w2 ⟨rfl,ar⟩;exact ej
 ·have HF:=I (SL (p:=p) hk hi);have HI:=I hi;clear hi;have e':(kL iU.wt x.aa[k].aT:Int)≤1048576:=by
   exact DJ
  obtain ⟨ot,hxs⟩:=BH e';have Nx:=I hxs;clear hxs;have Gf:=UN p.ae 2 x.aa[k].aT;obtain ⟨b,o,ck,Fk,rfl,o9,hbs,hr,bB,hc⟩:=Sl.get (α:=ba) (A:=bG) (c:=bD) bQ hk;obtain ⟨jM,jO,sN,jE,jF,sO,aE,su,zM,qY,Gt,Gw,xg,qA⟩:=iy hr;subst aE;obtain ⟨q0,q1,q2,q3,q4,q5⟩:=oW 6 hc;clear hc;go_enter Tryz.func102,Tryz.ntmps102;go_wp2_with fail
  refine (gQ x _ _ nm _ (aJ h bJ) cA).mono ?_;rw [HI.out];rintro e w2 ⟨rfl,ar⟩;obtain ⟨cq,cL⟩:=ay ar;have cw:w.heap.size+1 < w2.heap.size:=sq ar.size;have ke:w.heap.size < w2.heap.size:=by omega
  have eM:Below w.heap.size w w2:=bJ;replace q5:=r' eM q5 hbs;have uO:b < w2.heap.size:=by omega
  have vi:∀wq,Below w.heap.size w wq→Calls Tryz.prog 129 #[.slice bg p.ae.length bn,.slice jE x.aa[k].aT.length jF,.int .i64 2] wq fun e w'=>e = .returned (.int .i64 (BD p.ae 2 x.aa[k].aT))∧Below wq.heap.size wq w' :=
   fun wq hq=>UQ p.ae x.aa[k].aT 2 _ _ _ _ _ _ _ _ _ (bK.ext hq) (qA.ext hq) rfl rfl kR ot Ux.out Nx.out
  have C8:=I vi;clear vi;generalize BD p.ae 2 x.aa[k].aT = z at C8 HF Gf;have rp:(z:Int)≤1048576:=by omega
  have nH:IntKind.i64.wrap (25 * (z:Int)) = 25 * (z:Int):=IntWalk.i64_in _ J;have rn:IntKind.i64.wrap (100 - 25 * (z:Int)) = 100 - 25 * (z:Int):=IntWalk.i64_in _ J;by_cases fd:(100:Int) - 25 * (z:Int)≤0
  ·have hM:max 0 (100 - 25 * (z:Int)) = 0:=J;have HM:=I hM;clear hM;go_wp2_with fail
   refine aF w2 U' U' (aj _) ?_
   repeat ((first | refine aG O ?_ | refine aH _ O C7 ?_);simp only [Act.put,pz])
   exact DX
  ·have Gg:(0:Int) < 100 - 25 * (z:Int):=J;have hM:max 0 (100 - 25 * (z:Int)) = 100 - 25 * (z:Int):=J;have HM:=I hM;clear hM;have gv:(100:Int) - 25 * (z:Int)≤100:=J;go_wp2_with fail
   refine aF w2 U' U' (aj _) ?_
   repeat ((first | refine aG O ?_ | refine aH _ O C7 ?_);simp only [Act.put,pz])
   exact DH
def Gi (x:aU) (p:nI) (h:ba):Bool:=oH h.name x p == 0
def Ar (x:aU) (p:nI) (hs:List ba):List ByteArray:=(hs.filter (Gi x p)).map ba.name
theorem YM {x:aU} {p:nI} {hs:List ba} {k:Nat} (h:k < hs.length) (hp:Gi x p hs[k] = true):Ar x p (hs.take (k+1)) = Ar x p (hs.take k)++[hs[k].name]:=by
 unfold Ar;rw [List.take_succ_eq_append_getElem h,List.filter_append,List.map_append];simp [hp]
theorem SP {x:aU} {p:nI} {hs:List ba} {k:Nat} (h:k < hs.length) (hp:Gi x p hs[k] = false):Ar x p (hs.take (k+1)) = Ar x p (hs.take k):=by
 unfold Ar;rw [List.take_succ_eq_append_getElem h,List.filter_append,List.map_append];simp [hp]
theorem LY (x:aU) (p:nI) (hs:List ba):(Ar x p hs).length≤hs.length:=by unfold Ar;rw [List.length_map];exact List.length_filter_le _ _
theorem afG (x:aU) (p:nI) (hs:List ba) (k:Nat):(Ar x p (hs.take k)).length≤k:=Nat.le_trans (LY _ _ _) LC
theorem aY.NE {w:World} {B:Nat} {xs:List ByteArray} {ds:List Value} {s:ByteArray} (h:aY w B xs ds []) (hs:(s.size:Int)≤9223372036854775807):aY w B (xs++[s]) (ds++[.string s]) [] :=
 ⟨h.rd.append (.single (dE w s hs)),List.nodup_nil,(fun b X=>by cases X),(fun b X=>by cases X)⟩
theorem Zv (x:aU) (p:nI) (cs ps:List Value) (F G:List Nat) (w:World) (h:rd w x cs F) (h':rd w p ps G) (hw:(x.wt:Int)≤1048576) (fN:(p.wt:Int)≤1048576) :
 Calls Tryz.prog 15 #[.agg cs.toArray,.agg ps.toArray] w fun e w'=>∃A c G,e = .returned (.slice A (Ar x p x.aa).length c)∧am w' w.heap.size (Ar x p x.aa) [.slice A (Ar x p x.aa).length c] G∧Below w.heap.size w w':=by
 have im:x.wt = kL ba.wt x.aa+kL ag.wt x.V:=rfl;have cA:(x.aa.length:Int)≤1048576:=by have:=gJ ba.wt x.aa;omega
 have HW:=I hw;have Uc:=I fN;clear hw fN im;have hr:=h;have d':=h';obtain ⟨bG,bD,fQ,dn,bW,jg,aE,hF,bQ,dM,hnext,aV,aP,aW⟩:=aO hr;obtain ⟨bY,bZ,iq,eU,eX,jV,bg,bn,dK,jU,hG,jW,dA,kQ,lg,lG,iO,bK⟩:=dL d';subst aE jU;clear hF hG hr d';go_enter Tryz.func15,Tryz.ntmps15;go_wp2_with fail
 obtain ⟨w0,hw0⟩:∃w0,(w.alloc (.cells #[.slice bG x.aa.length bD,.slice dn x.V.length bW,.int .i64 x.next,.int .i64 x.weights.pack,.int .i64 x.weights.af,.int .i64 x.weights.an] 29)).alloc (.cells #[.string p.name,.slice bY p.labels.length bZ,.int .i64 p.az,.int .i64 p.mem,.int .i64 p.aw,.slice eU p.ai.length eX,.slice bg p.ae.length bn] 35) = w0:=⟨_,rfl⟩;try rw [hw0]
 have c0:w0.cell? ⟨w.heap.size,0,none⟩ = some (.slice bG x.aa.length bD):=by rw [← hw0,World.cell?_of_block (heap_alloc_old _ _ S'),cell_of_row _ _ _ _ _ _ (heap_alloc_new w _)];rfl
 have c1:w0.cell? ⟨w.heap.size,1,none⟩ = some (.slice dn x.V.length bW):=by rw [← hw0,World.cell?_of_block (heap_alloc_old _ _ S'),cell_of_row _ _ _ _ _ _ (heap_alloc_new w _)];rfl
 have c2:w0.cell? ⟨w.heap.size,2,none⟩ = some (.int .i64 x.next):=by rw [← hw0,World.cell?_of_block (heap_alloc_old _ _ S'),cell_of_row _ _ _ _ _ _ (heap_alloc_new w _)];rfl
 have c3:w0.cell? ⟨w.heap.size,3,none⟩ = some (.int .i64 x.weights.pack):=by rw [← hw0,World.cell?_of_block (heap_alloc_old _ _ S'),cell_of_row _ _ _ _ _ _ (heap_alloc_new w _)];rfl
 have c4:w0.cell? ⟨w.heap.size,4,none⟩ = some (.int .i64 x.weights.af):=by rw [← hw0,World.cell?_of_block (heap_alloc_old _ _ S'),cell_of_row _ _ _ _ _ _ (heap_alloc_new w _)];rfl
 have c5:w0.cell? ⟨w.heap.size,5,none⟩ = some (.int .i64 x.weights.an):=by rw [← hw0,World.cell?_of_block (heap_alloc_old _ _ S'),cell_of_row _ _ _ _ _ _ (heap_alloc_new w _)];rfl
 have d0:w0.cell? ⟨w.heap.size+1,0,none⟩ = some (.string p.name):=by rw [← hw0];simp
 have d1:w0.cell? ⟨w.heap.size+1,1,none⟩ = some (.slice bY p.labels.length bZ):=by rw [← hw0];simp
 have d2:w0.cell? ⟨w.heap.size+1,2,none⟩ = some (.int .i64 p.az):=by rw [← hw0];simp
 have d3:w0.cell? ⟨w.heap.size+1,3,none⟩ = some (.int .i64 p.mem):=by rw [← hw0];simp
 have d4:w0.cell? ⟨w.heap.size+1,4,none⟩ = some (.int .i64 p.aw):=by rw [← hw0];simp
 have d5:w0.cell? ⟨w.heap.size+1,5,none⟩ = some (.slice eU p.ai.length eX):=by rw [← hw0];simp
 have d6:w0.cell? ⟨w.heap.size+1,6,none⟩ = some (.slice bg p.ae.length bn):=by rw [← hw0];simp
 have mB:Below w.heap.size w w0:=by rw [← hw0];exact ak (ak (aj _) _) _
 have jz:w0.heap.size = w.heap.size+1+1:=by rw [← hw0];simp
 have cV:w.heap.size < w0.heap.size:=by omega
 have cE:w.heap.size+1 < w0.heap.size:=by omega
 have HS0:=I jz;clear hw0 jz;go_loopw [5,6] (fun v i wr=>∃(k:Nat) (ds:List Value),k≤x.aa.length∧i = .int .i64 k∧wr.ownsRow w0.heap.size 9 1 v (Ar x p (x.aa.take k)).length ds∧aY w w0.heap.size (Ar x p (x.aa.take k)) ds []∧Below w0.heap.size w0 wr) (fun _ i _=>x.aa.length - (intOf i).toNat)
 case atStart =>refine ⟨0,[],Nat.zero_le _,rfl,?_,aY.nil _ _,ak (aj _) _⟩;rw [← HS0.out];have:=World.ownsRow_made (base:=w0.heap.size) (e:=9) (size:=1) w0 #[] 0 S' kD rfl;simpa [Ar] using this
 case round =>
  obtain ⟨k,ds,hk,rfl,bk,cb,aR⟩:=hrel;by_cases ax:k < x.aa.length
  ·obtain ⟨b,o,ck,Fk,rfl,o9,hbs,hr,bB,hc⟩:=Sl.get (α:=ba) (A:=bG) (c:=bD) bQ ax;obtain ⟨jM,jO,sN,jE,jF,sO,aE,su,zM,qY,Gt,Gw,xg,qA⟩:=iy hr;subst aE;obtain ⟨q0,q1,q2,q3,q4,q5⟩:=oW 6 hc;clear hc;have b9:Below w.heap.size w wr:=ah mB (aR.mono J);replace q0:=r' b9 q0 hbs;replace q1:=r' b9 q1 hbs;replace q2:=r' b9 q2 hbs;replace q3:=r' b9 q3 hbs;replace q4:=r' b9 q4 hbs;replace q5:=r' b9 q5 hbs;have WU:b < wr.heap.size:=(by have:=b9.size;omega);have hK:=(ay aR).1;replace c0:=(hK _ _ cV).trans c0;replace c1:=(hK _ _ cV).trans c1;replace c2:=(hK _ _ cV).trans c2;replace c3:=(hK _ _ cV).trans c3;replace c4:=(hK _ _ cV).trans c4;replace c5:=(hK _ _ cV).trans c5;replace d0:=(hK _ _ cE).trans d0;replace d1:=(hK _ _ cE).trans d1;replace d2:=(hK _ _ cE).trans d2;replace d3:=(hK _ _ cE).trans d3;replace d4:=(hK _ _ cE).trans d4;replace d5:=(hK _ _ cE).trans d5;replace d6:=(hK _ _ cE).trans d6;clear hK;have tX:w.heap.size < wr.heap.size:=(by have:=aR.size;omega);have hz1r:w.heap.size+1 < wr.heap.size:=(by have:=aR.size;omega);have AR:(Ar x p (x.aa.take k)).length≤k:=afG x p x.aa k;cases hp:Gi x p x.aa[k] with
   | true =>
     have HP:=I hp;have IY:=I (show (oH x.aa[k].name x p == 0) = true from hp);clear hp;go_wp2_with fail
     first
      | (refine (Oa x p _ _ _ _ x.aa[k].name _ (aJ h I5) (aJ h' I5) HW.out Uc.out).mono ?_
         rw [IY.out]
         rintro e wn ⟨rfl,Z⟩)
      | (refine aF _ U' U' (aj _) ?_
         repeat ((first | refine aG O ?_ | refine aH _ O C3 ?_);simp only [Act.put,pz])
         refine aN ?_;intro wn Z
         replace Z:=Z.out)
     obtain ⟨lP,mL⟩:=ay Z
     first
      | have kA:wr.heap.size < wn.heap.size:=(sq Z.size)
      | have kA:wr.heap.size≤wn.heap.size:=(sq Z.size)
     have bw:Below w0.heap.size w0 wn:=(by first | exact ah aR Z | exact ah (ak aR _) Z);first | have zq:=mG bk Z | have zq:=mG (bk.alloc _) Z
     go_wp2_with (
      at_builtin
      go_must (refine lC qw O _ _ O _ _ _ _ _ zq O [.string x.aa[k].name] i6 O ex J J VG ?_)
      intro v2 w2 et eA cw)
     have ar:Below w0.heap.size w0 w2:=lS (B:=w0.heap.size) zq eA bw (by have:=bw.size;omega);exact ⟨⟨k+1,_,J,N',(by rw [YM ax HP.out,List.length_append];exact et),(by rw [YM ax HP.out];exact cb.NE (rV zM)),ar⟩,by simp [intOf];omega⟩
   | false =>
     have HP:=I hp;have IY:=I (show (oH x.aa[k].name x p == 0) = false from hp);clear hp;go_wp2_with fail
     first
      | (refine (Oa x p _ _ _ _ x.aa[k].name _ (aJ h I5) (aJ h' I5) HW.out Uc.out).mono ?_
         rw [IY.out]
         rintro e wn ⟨rfl,Z⟩)
      | (refine aF _ U' U' (aj _) ?_
         repeat ((first | refine aG O ?_ | refine aH _ O C3 ?_);simp only [Act.put,pz])
         refine aN ?_;intro wn Z
         replace Z:=Z.out)
     obtain ⟨lP,mL⟩:=ay Z
     first
      | have kA:wr.heap.size < wn.heap.size:=(sq Z.size)
      | have kA:wr.heap.size≤wn.heap.size:=(sq Z.size)
     have bw:Below w0.heap.size w0 wn:=(by first | exact ah aR Z | exact ah (ak aR _) Z);first | have zq:=mG bk Z | have zq:=mG (bk.alloc _) Z
     go_wp2;exact ⟨⟨k+1,_,J,N',(by rw [SP ax HP.out];exact zq),(by rw [SP ax HP.out];exact cb),bw⟩,by simp [intOf];omega⟩
  ·have bF:k = x.aa.length:=J;subst bF;rw [List.take_length] at bk cb;have b9:Below w.heap.size w wr:=ah mB aR;obtain ⟨Al,cl,Gl,rfl,l5⟩:=am.oJ bk ((aY.bs cb (fun b X=>by cases X) b9.size)) (fun _ _ X=>by cases X);have AR:=LY x p x.aa;clear bk cb;have hK:=(ay aR).1;replace c0:=(hK _ _ cV).trans c0;replace c1:=(hK _ _ cV).trans c1;replace c2:=(hK _ _ cV).trans c2;replace c3:=(hK _ _ cV).trans c3;replace c4:=(hK _ _ cV).trans c4;replace c5:=(hK _ _ cV).trans c5;replace d0:=(hK _ _ cE).trans d0;replace d1:=(hK _ _ cE).trans d1;replace d2:=(hK _ _ cE).trans d2;replace d3:=(hK _ _ cE).trans d3;replace d4:=(hK _ _ cE).trans d4;replace d5:=(hK _ _ cE).trans d5;replace d6:=(hK _ _ cE).trans d6;clear hK;go_wp2;go_ret
   exact ⟨Al,cl,Gl,rfl,l5.mono J,b9⟩
end Go.Proofs.YtajbbmembionpaaGreat
