/- HostOk, of the program and of the reference. No condition. -/
import Derived.Test.YtajbbmembionpaaGreatAt
import Derived.Test.YtajbbmembionpaaGreatTaintsOk
import Derived.Test.YtajbbmembionpaaGreatNeedOk
import Derived.Test.YtajbbmembionpaaGreatSums
namespace Go.Proofs.YtajbbmembionpaaGreat
open Go.ChangeShapes Go.WideShapes Go.ChangeAt Go.RowKit
set_option linter.unusedVariables false
set_option linter.unusedSimpArgs false
set_option maxHeartbeats 2000000
set_option maxRecDepth 100000
def Aj (x:aM):Bool:=Qs x.name&&sD x.labels&&La x.aT&&(decide (0≤x.av)&&decide (0≤x.mem))&&(decide (1≤x.slots)&&decide (x.slots≤20))
theorem rO (x:aM) (cs:List Value) (F:List Nat) (w:World) (h:rd w x cs F) (uZ:(x.name.size:Int)≤1048576) (fq:(x.labels.length:Int)≤1048576) (cY:∀l∈x.labels,(l.key.size:Int)≤1048576∧(l.value.size:Int)≤1048576) (kw:(x.aT.length:Int)≤1048576) (i6:∀l∈x.aT,(l.key.size:Int)≤1048576∧(l.value.size:Int)≤1048576) :
 Calls Tryz.prog 51 #[.agg cs.toArray] w fun e w'=>e = .returned (.bool (Aj x))∧Below w.heap.size w w':=by
 have Zb:=I cY;have Ux:=I i6;clear cY i6;have hr:=h;obtain ⟨gu,gy,jw,kJ,kK,qU,aw,hF,hname,dO,vg,cF,uI,jq⟩:=iy hr;subst aw;clear hr hF;go_enter Tryz.func51,Tryz.ntmps51
 go_wp2_with (first
  | (go_at_call 81;refine (Rq x.name _ uZ).mono ?_;rintro e w2 ⟨rfl,ap⟩;obtain ⟨bX,cG⟩:=ay ap;have cj:w.heap.size < w2.heap.size:=(sq ap.size))
  | (go_at_call 75;refine (Jw x.labels _ _ _ _ _ (dO.ext bx) rfl fq Zb.out).mono ?_;rintro e w3 ⟨rfl,aR⟩;obtain ⟨dk,hf3⟩:=ay aR;have cW:w.heap.size < w3.heap.size:=(sq aR.size))
  | (go_at_call 92;refine (ZL x.aT _ _ _ _ _ (jq.ext bx) rfl kw Ux.out).mono ?_;rintro e w4 ⟨rfl,bu⟩;obtain ⟨fh,hf4⟩:=ay bu;have Wy:w.heap.size < w4.heap.size:=(sq bu.size))
  | go_in)
 all_goals first
  | (go_ret;refine ⟨?_,bx⟩;refine congrArg (fun b=>Ending.returned (Value.bool b)) ?_;show (_:Bool) = _;(try clear bX cG);(try clear dk hf3);(try clear fh hf4);unfold Aj;first | (simp [*];done) | (simp [*];omega) | (simp_all;done) | (simp_all;omega))
  | skip
theorem tZ (x:aM) (cs:List Value) (F:List Nat) (w:World) (h:rd w x cs F) (hw:(x.wt:Int)≤1048576) :
 Calls Tryz.prog 51 #[.agg cs.toArray] w fun e w'=>e = .returned (.bool (Aj x))∧Below w.heap.size w w':=by
 have gE:x.wt = x.name.size+kL ao.wt x.labels+kL iU.wt x.aT:=rfl;obtain ⟨fq,cY⟩:=sW (xs:=x.labels) J;obtain ⟨kw,i6⟩:=BH (xs:=x.aT) J;exact rO x cs F w h J fq cY kw i6
def od (xs:List aD):Bool:=oc uh nD 4 xs
theorem WJ (xs:List aD) (A:Option Addr) (n c:Nat) (F:List Nat) (w:World) (h:Sl w xs A c F) (hn:n = xs.length) (hl:(xs.length:Int)≤1048576) (cR:(∀l∈xs,(l.key.size:Int)≤1048576∧(l.values.length:Int)≤1048576∧∀v∈l.values,(v.size:Int)≤1048576)) :
 Calls Tryz.prog 78 #[.slice A n c] w fun e w'=>e = .returned (.bool (od xs))∧Below w.heap.size w w':=by
 subst hn;have Eo:=I cR;clear cR;by_cases hm:(xs.length:Int)≤4
 ·go_enter Tryz.func78,Tryz.ntmps78;go_wp2_with fail
  go_loopw [3] (fun i wr=>∃k:Nat,k≤xs.length∧i = .int .i64 k∧Hid (∀j,j < k→rowAt uh nD xs j = true)∧Below w.heap.size w wr) (fun i _=>xs.length - (intOf i).toNat)
  case atStart=>exact ⟨0,Nat.zero_le _,rfl,(fun j hj=>by omega),bx⟩
  case round =>
   obtain ⟨k,hk,rfl,hall,ax⟩:=hrel;by_cases aq:k < xs.length
   ·obtain rfl | ⟨j,rfl⟩:k = 0∨∃j,k = j+1:=by cases k with | zero=>exact .inl rfl | succ j=>exact .inr ⟨j,rfl⟩
    ·obtain ⟨b,o,ck,Fk,rfl,o9,bc,hr,bv,hc⟩:=(Sl.ext (w':=wr) (A:=A) (c:=c) h ax).get aq;have d7:=hr;obtain ⟨jy,ji,Bo,aw,su,b8,eN,kV⟩:=og hr;subst aw;obtain ⟨q0,q1,q2⟩:=qB 3 hc;clear hc;simp only [Nat.zero_mul,Nat.add_zero] at q0 q1 q2;obtain ⟨cX,cM,hs3⟩:=Eo.out xs[0] (List.getElem_mem ..);cases h1:uh xs[0]
     all_goals
      have hp:=cC (ok:=uh) (less:=nD) aq;rw [h1] at hp;try simp only [Bool.false_and,Bool.and_false,Bool.and_true,Bool.and_self] at hp
      change rowAt uh nD xs _ = _ at hp
      have hK:∀wq,Below wr.heap.size wr wq→Calls Tryz.prog 125 #[.agg #[.string xs[0].key,.int .i64 xs[0].op,.slice jy xs[0].values.length ji]] wq fun e w'=>e = .returned (.bool (uh xs[0]))∧Below wq.heap.size wq w' :=
       fun wq hq=>Rx xs[0] _ _ _ (aJ d7 hq) cX cM hs3
      rw [h1] at hK;have TU:=I hK;clear hK
      first
       | have HN:=I (gq hall.out hp)
       | have HF:=I (wU (most:=4) aq hp)
      clear h1 hp;go_wp2_with fail
      refine aF _ U' U' (aj _) ?_
      repeat ((first | refine aG O ?_ | refine aH _ O FA ?_);simp only [Act.put,pz])
      refine aN ?_;intro wn hn;replace hn:=hn.out;go_wp2
      first
       | exact ⟨⟨0+1,J,N',HN.out,ah ax hn⟩,by simp [intOf];omega⟩
       | (go_ret;exact ⟨by unfold od;rw [HF.out];rfl,ah ax hn⟩)
    ·obtain ⟨b,o,ck,Fk,rfl,o9,bc,hr,bv,hc⟩:=(Sl.ext (w':=wr) (A:=A) (c:=c) h ax).get aq;have d7:=hr;obtain ⟨jy,ji,Bo,aw,su,b8,eN,kV⟩:=og hr;subst aw;obtain ⟨q0,q1,q2⟩:=qB 3 hc;clear hc;obtain ⟨b',o',TY,Xw,e,Ht,hbs',cI,zQ,hc'⟩:=Sl.get (Sl.ext (w':=wr) (c:=c) h ax) (show j < xs.length by omega);have QS:=cI;obtain ⟨qO,qP,KL,jU,abT,vC,hop2,zS⟩:=og cI;subst jU;obtain ⟨rfl,rfl⟩:b' = b∧o' = o:=by simpa using e.symm
     clear e;obtain ⟨p0,p1,p2⟩:=qB 3 hc';clear hc';have wB:IntKind.i64.wrap (j:Int) = j:=IntWalk.i64_in _ J;have mD:j < xs.length:=J;obtain ⟨hp1,wg,Vx⟩:=Eo.out xs[j] (List.getElem_mem ..);obtain ⟨cX,cM,hs3⟩:=Eo.out xs[j+1] (List.getElem_mem ..);cases h1:uh xs[j+1] <;> cases h3:nD xs[j] xs[j+1]
     all_goals
      have hp:=yS (ok:=uh) (less:=nD) aq;rw [h1,h3] at hp;try simp only [Bool.false_and,Bool.and_false,Bool.and_true,Bool.and_self] at hp
      change rowAt uh nD xs _ = _ at hp
      have hK:∀wq,Below wr.heap.size wr wq→Calls Tryz.prog 125 #[.agg #[.string xs[j+1].key,.int .i64 xs[j+1].op,.slice jy xs[j+1].values.length ji]] wq fun e w'=>e = .returned (.bool (uh xs[j+1]))∧Below wq.heap.size wq w' :=
       fun wq hq=>Rx xs[j+1] _ _ _ (aJ d7 hq) cX cM hs3
      rw [h1] at hK;have TU:=I hK;clear hK
      first
       | have HN:=I (gq hall.out hp)
       | have HF:=I (wU (most:=4) aq hp)
      have hC:∀wq,Below wr.heap.size wr wq→Calls Tryz.prog 77 #[.agg #[.string xs[j].key,.int .i64 xs[j].op,.slice qO xs[j].values.length qP],.agg #[.string xs[j+1].key,.int .i64 xs[j+1].op,.slice jy xs[j+1].values.length ji]] wq fun e w'=>e = .returned (.bool (nD xs[j] xs[j+1]))∧Below wq.heap.size wq w' :=
       fun wq hq=>TN xs[j] xs[j+1] _ _ _ _ _ (aJ QS hq) (aJ d7 hq) wg cM
      rw [h3] at hC;have zf:=I hC;clear hC;clear h1 hp;go_wp2_with fail
      refine aF _ U' U' (aj _) ?_
      repeat ((first | refine aG O ?_ | refine aH _ O FA ?_);simp only [Act.put,pz])
      refine aN ?_;intro wn hn;replace hn:=hn.out;go_wp2
      first
       | exact ⟨⟨j+1+1,J,N',HN.out,ah ax hn⟩,by simp [intOf];omega⟩
       | (go_ret;exact ⟨by unfold od;rw [HF.out];rfl,ah ax hn⟩)
   ·have bB:k = xs.length:=J;subst bB;have HF:=I (Jy hm hall.out);go_wp2;go_ret
    exact ⟨by unfold od;rw [HF.out];rfl,ax⟩
 ·have HF:=I (Jz (ok:=uh) (less:=nD) hm);go_enter Tryz.func78,Tryz.ntmps78;go_wp2;go_ret
  exact ⟨by unfold od;rw [HF.out];rfl,bx⟩
def GU (x:nI):Bool:=Qs x.name&&sD x.labels&&od x.ag&&Ya x.ae&&(decide (0≤x.av)&&decide (0≤x.mem))&&(decide (0≤x.ar)&&decide (x.ar≤1000))
def VX (l:aD):Prop:=(l.key.size:Int)≤1048576∧(l.values.length:Int)≤1048576∧∀v∈l.values,(v.size:Int)≤1048576
def VY (l:bH):Prop:=(l.key.size:Int)≤1048576∧(l.value.size:Int)≤1048576
theorem wM (x:nI) (cs:List Value) (F:List Nat) (w:World) (h:rd w x cs F) (uZ:(x.name.size:Int)≤1048576) (fq:(x.labels.length:Int)≤1048576) (cY:∀l∈x.labels,(l.key.size:Int)≤1048576∧(l.value.size:Int)≤1048576) (tF:(x.ag.length:Int)≤1048576) (VU:∀l∈x.ag,VX l) (kw:(x.ae.length:Int)≤1048576) (i6:∀l∈x.ae,VY l) :
 Calls Tryz.prog 39 #[.agg cs.toArray] w fun e w'=>e = .returned (.bool (GU x))∧Below w.heap.size w w':=by
 have Zb:=I cY;have I1:=I VU;have Ux:=I i6;clear cY i6 VU;have hr:=h;obtain ⟨gu,gy,jw,oh,nT,wG,fA,fB,jY,aw,hF,hname,dO,vg,cF,BJ,mX,eG⟩:=dL hr;subst aw;clear hr hF;go_enter Tryz.func39,Tryz.ntmps39
 go_wp2_with (first
  | (go_at_call 81;refine (Rq x.name _ uZ).mono ?_;rintro e w2 ⟨rfl,ap⟩;obtain ⟨bX,cG⟩:=ay ap;have cj:w.heap.size < w2.heap.size:=(sq ap.size))
  | (go_at_call 75;refine (Jw x.labels _ _ _ _ _ (dO.ext bx) rfl fq Zb.out).mono ?_;rintro e w3 ⟨rfl,aR⟩;obtain ⟨dk,hf3⟩:=ay aR;have cW:w.heap.size < w3.heap.size:=(sq aR.size))
  | (go_at_call 78;refine (WJ x.ag _ _ _ _ _ (mX.ext bx) rfl tF I1.out).mono ?_;rintro e w4 ⟨rfl,bu⟩;obtain ⟨fh,hf4⟩:=ay bu;have Wy:w.heap.size < w4.heap.size:=(sq bu.size))
  | (go_at_call 80;refine (RI x.ae _ _ _ _ _ (eG.ext bx) rfl kw Ux.out).mono ?_;rintro e w5 ⟨rfl,br⟩;obtain ⟨qX,pr⟩:=ay br;have Es:w.heap.size < w5.heap.size:=(sq br.size))
  | go_in)
 all_goals first
  | (go_ret;refine ⟨?_,bx⟩;refine congrArg (fun b=>Ending.returned (Value.bool b)) ?_;show (_:Bool) = _;(try clear bX cG);(try clear dk hf3);(try clear fh hf4);(try clear qX pr);unfold GU;first | (simp [*];done) | (simp [*];omega) | (simp_all;done) | (simp_all;omega))
  | skip
theorem yT (x:nI) (cs:List Value) (F:List Nat) (w:World) (h:rd w x cs F) (hw:(x.wt:Int)≤1048576) :
 Calls Tryz.prog 39 #[.agg cs.toArray] w fun e w'=>e = .returned (.bool (GU x))∧Below w.heap.size w w':=by
 have gE:x.wt = x.name.size+kL ao.wt x.labels+kL aD.wt x.ag+kL bH.wt x.ae:=rfl;obtain ⟨fq,cY⟩:=sW (xs:=x.labels) J;obtain ⟨tF,VU⟩:=Aa (xs:=x.ag) J;obtain ⟨kw,i6⟩:=FQ (xs:=x.ae) J;exact wM x cs F w h J fq cY tF VU kw i6
structure U6 (x:aM):Prop where
 ns:(x.name.size:Int)≤1048576
 ll:(x.labels.length:Int)≤1048576
 ls:∀l∈x.labels,(l.key.size:Int)≤1048576∧(l.value.size:Int)≤1048576
 tl:(x.aT.length:Int)≤1048576
 ts:∀l∈x.aT,(l.key.size:Int)≤1048576∧(l.value.size:Int)≤1048576
structure Xl (x:nI):Prop where
 ns:(x.name.size:Int)≤1048576
 ll:(x.labels.length:Int)≤1048576
 ls:∀l∈x.labels,(l.key.size:Int)≤1048576∧(l.value.size:Int)≤1048576
 nl:(x.ag.length:Int)≤1048576
 T9:∀l∈x.ag,VX l
 tl:(x.ae.length:Int)≤1048576
 ts:∀l∈x.ae,VY l
theorem U6.r9 (x:aM) (hw:(x.wt:Int)≤1048576):U6 x:=by
 have gE:x.wt = x.name.size+kL ao.wt x.labels+kL iU.wt x.aT:=rfl;obtain ⟨fq,cY⟩:=sW (xs:=x.labels) J;obtain ⟨kw,i6⟩:=BH (xs:=x.aT) J;exact ⟨J,fq,cY,kw,i6⟩
theorem Xl.r9 (x:nI) (hw:(x.wt:Int)≤1048576):Xl x:=by
 have gE:x.wt = x.name.size+kL ao.wt x.labels+kL aD.wt x.ag+kL bH.wt x.ae:=rfl;obtain ⟨fq,cY⟩:=sW (xs:=x.labels) J;obtain ⟨tF,VU⟩:=Aa (xs:=x.ag) J;obtain ⟨kw,i6⟩:=FQ (xs:=x.ae) J;exact ⟨J,fq,cY,tF,VU,kw,i6⟩
theorem aqB (nm:ByteArray) (xs:List af):(F7 nm xs).length≤xs.length:=by unfold F7;rw [List.length_map];exact List.length_filter_le _ _
theorem alL {nm:ByteArray} {xs:List af} {a b:Int} (h:vU (F7 nm xs) = some (a,b)):KF nm xs = .tuple #[.int .i64 a,.int .i64 b,.int .i64 (F7 nm xs).length,.bool true]:=by unfold KF;rw [h]
theorem alM {nm:ByteArray} {xs:List af} (h:vU (F7 nm xs) = none):KF nm xs = .tuple #[.int .i64 0,.int .i64 0,.int .i64 0,.bool false]:=by unfold KF;rw [h]
def Ai (x:aU) (h:aM):Bool:=match vU (F7 h.name x.au) with
 | none=>false
 | some (a,b)=>decide (a≤h.av)&&(decide (b≤h.mem)&&decide (((F7 h.name x.au).length:Int)≤h.slots))
def dY (x:aU) (h:aM):Bool:=Aj h&&Ai x h
def dQ (a b:aM):Bool:=Op.bytesLess a.name.toList b.name.toList
def jT (x:aU) (p:af):Bool:=GU p.aS&&((decide (1≤p.seq)&&decide (p.seq≤x.next - 1))&&((p.on.toList == []) || decide (0≤pK (iM p.on) x.aa)))
def dw (a b:af):Bool:=Op.bytesLess a.aS.name.toList b.aS.name.toList
def seenIn (xs:List af) (s:Int):Bool:=xs.any fun q=>q.seq == s
def DN (xs:List af) (k:Nat):Bool:=match xs[k]? with | none=>false | some p=>!(seenIn (xs.take k) p.seq)
theorem sG {xs:List af} {k:Nat} (h:k < xs.length):DN xs k = !(seenIn (xs.take k) xs[k].seq):=by unfold DN;rw [List.getElem?_eq_getElem h]
def Em (x:aU):Bool:=decide ((x.aa.length:Int)≤8)&&(decide ((x.au.length:Int)≤12)&&((decide (1≤x.next)&&decide (x.next≤1000000000))&&zL x.weights.pack x.weights.spread x.weights.soft))
def iI (x:aU):Bool:=Em x&&((List.range x.aa.length).all (rowAt (dY x) dQ x.aa)&&((List.range x.au.length).all (rowAt (jT x) dw x.au)&&(List.range x.au.length).all (DN x.au)))
theorem oU {x:aU} (h:Em x = false):iI x = false:=by unfold iI;rw [h];rfl
theorem dW {x:aU} {k:Nat} (hk:k < x.aa.length) (h:rowAt (dY x) dQ x.aa k = false):iI x = false:=by unfold iI;rw [YF hk h];simp
theorem jP {x:aU} {k:Nat} (hk:k < x.au.length) (h:rowAt (jT x) dw x.au k = false):iI x = false:=by unfold iI;rw [YF hk h];simp
theorem DR {x:aU} {k:Nat} (hk:k < x.au.length) (h:DN x.au k = false):iI x = false:=by unfold iI;rw [YF hk h];simp
theorem OX {x:aU} (h0:Em x = true) (h1:∀j,j < x.aa.length→rowAt (dY x) dQ x.aa j = true) (h2:∀j,j < x.au.length→rowAt (jT x) dw x.au j = true) (h3:∀j,j < x.au.length→DN x.au j = true):iI x = true:=by
 unfold iI;rw [h0,YG h1,YG h2,YG h3];rfl
theorem pV {α:Type} {ok:α→Bool} {less:α→α→Bool} {xs:List α} {v:Bool} (h:0 < xs.length) (e:ok xs[0] = v):rowAt ok less xs 0 = v:=by rw [cC h,e]
theorem nM {α:Type} {ok:α→Bool} {less:α→α→Bool} {xs:List α} {j:Nat} {v u:Bool} (h:j+1 < xs.length) (e:ok xs[j+1] = v) (e2:less xs[j] xs[j+1] = u):rowAt ok less xs (j+1) = (v&&u):=by rw [yS h,e,e2]
theorem VJ {x:aU} {h:aM} (e:vU (F7 h.name x.au) = none):Ai x h = false:=by unfold Ai;rw [e]
theorem Px {x:aU} {h:aM} {a b:Int} (e:vU (F7 h.name x.au) = some (a,b)):Ai x h = (decide (a≤h.av)&&(decide (b≤h.mem)&&decide (((F7 h.name x.au).length:Int)≤h.slots))):=by unfold Ai;rw [e]
theorem E8 (x:aU) (h:aM):∃(a b n:Int) (C7:Bool),KF h.name x.au = .tuple #[.int .i64 a,.int .i64 b,.int .i64 n,.bool C7]∧Ai x h = (C7&&(decide (a≤h.av)&&(decide (b≤h.mem)&&decide (n≤h.slots))))∧0≤n∧n≤x.au.length:=by
 cases e:vU (F7 h.name x.au) with
 | none=>exact ⟨0,0,0,false,alM e,by rw [VJ e];rfl,J,J⟩
 | some ab =>obtain ⟨a,b⟩:=ab;have:=aqB h.name x.au;exact ⟨a,b,(F7 h.name x.au).length,true,alL e,by rw [Px e];rfl,J,J⟩
theorem Sl.Ec {w:World} {xs:List af} {A:Option Addr} {c:Nat} {F:List Nat} (h:Sl w xs A c F):∀p∈xs,bp p.seq:=by
 intro p hp;obtain ⟨k,hk,rfl⟩:=List.getElem_of_mem hp;obtain ⟨b,o,ck,Fk,_,_,_,hr,_⟩:=h.get hk;obtain ⟨gV,gW,lF,iR,iT,mV,dD,dF,iH,aw,hF,nY,iE,rF,rG,oZ,je,dN,ie,hseq⟩:=kE hr;exact hseq
end Go.Proofs.YtajbbmembionpaaGreat
