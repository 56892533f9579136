/- PodOk, of the program and of the reference. No condition. -/
import Derived.Test.YtjahcnjmjahbaaaGreatTolsOk
import Derived.Test.YtjahcnjmjahbaaaGreatHostOk
import Derived.Test.YtjahcnjmjahbaaaGreatSums
namespace Go.Proofs.YtjahcnjmjahbaaaGreat
open Go.ChangeShapes Go.WideShapes Go.ChangeAt Go.RowKit
set_option linter.unusedVariables false
set_option linter.unusedSimpArgs false
set_option maxHeartbeats 2000000
set_option maxRecDepth 100000
def GU (x:nI):Bool:=Qs x.name&&sD x.labels&&kw x.af&&Ya x.ae&&(decide (0<=x.aw)&&decide (0<=x.mem))&&(decide (0<=x.av)&&decide (x.av<=1000))
def VX (l:aE):Prop:=(l.key.size:Int)<=1048576/\(l.values.length:Int)<=1048576/\∀v∈l.values,(v.size:Int)<=1048576
def VY (l:bH):Prop:=(l.key.size:Int)<=1048576/\(l.value.size:Int)<=1048576
theorem vw (x:nI) (cs:List Value) (F:List Nat) (w:World) (h:rd w x cs F) (pg:(x.name.size:Int)<=1048576) (dq:(x.labels.length:Int)<=1048576) (di:∀l∈x.labels,(l.key.size:Int)<=1048576/\(l.value.size:Int)<=1048576) (mW:(x.af.length:Int)<=1048576) (VU:∀l∈x.af,VX l) (fu:(x.ae.length:Int)<=1048576) (dr:∀l∈x.ae,VY l) :
 Calls Tryz.prog 41 #[.agg cs.toArray] w λe w'=>e = .returned (.bool (GU x))/\Below w.heap.size w w':=by
 have Zb:=I di;have qh:=I VU;have Ux:=I dr;clear di dr VU;have hr:=h;obtain ⟨gu,gy,jw,oh,nT,wG,fA,fB,jY,aq,hF,hname,dO,vg,b8,BJ,mX,eG⟩:=dL hr;subst aq;clear hr hF;go_enter Tryz.func41,Tryz.ntmps41
 go_wp2_with (first
  | (go_at_call 75;refine (Ro x.name _ pg).mono ?_;rintro e w2 ⟨rfl,ap⟩;obtain ⟨bX,cE⟩:=ay ap;have cr:w.heap.size < w2.heap.size:=(sq ap.size))
  | (go_at_call 76;refine (Jv x.labels _ _ _ _ _ (dO.ext bc) rfl dq Zb.out).mono ?_;rintro e w3 ⟨rfl,ba⟩;obtain ⟨cK,hf3⟩:=ay ba;have eN:w.heap.size < w3.heap.size:=(sq ba.size))
  | (go_at_call 78;refine (WI x.af _ _ _ _ _ (mX.ext bc) rfl mW qh.out).mono ?_;rintro e w4 ⟨rfl,bC⟩;obtain ⟨ej,hf4⟩:=ay bC;have Wy:w.heap.size < w4.heap.size:=(sq bC.size))
  | (go_at_call 79;refine (RH x.ae _ _ _ _ _ (eG.ext bc) rfl fu Ux.out).mono ?_;rintro e w5 ⟨rfl,bj⟩;obtain ⟨j7,kD⟩:=ay bj;have Es:w.heap.size < w5.heap.size:=(sq bj.size))
  | go_in)
 all_goals first
  | (go_ret;refine ⟨?_,bc⟩;refine congrArg (λb=>Ending.returned (Value.bool b)) ?_;show (_:Bool) = _;(try clear bX cE);(try clear cK hf3);(try clear ej hf4);(try clear j7 kD);unfold GU;first | (simp [*];done) | (simp [*];omega) | (simp_all;done) | (simp_all;omega))
  | skip
theorem wM (x:nI) (cs:List Value) (F:List Nat) (w:World) (h:rd w x cs F) (pg:(x.name.size:Int)<=1048576) (dq:(x.labels.length:Int)<=1048576) (di:∀l∈x.labels,(l.key.size:Int)<=1048576/\(l.value.size:Int)<=1048576) (mW:(x.af.length:Int)<=1048576) (VU:∀l∈x.af,VX l) (fu:(x.ae.length:Int)<=1048576) (dr:∀l∈x.ae,VY l) :
 Calls Tryz.prog 54 #[.agg cs.toArray] w λe w'=>e = .returned (.bool (GU x))/\Below w.heap.size w w':=by
 have Zb:=I di;have qh:=I VU;have Ux:=I dr;clear di dr VU;have hr:=h;obtain ⟨gu,gy,jw,oh,nT,wG,fA,fB,jY,aq,hF,hname,dO,vg,b8,BJ,mX,eG⟩:=dL hr;subst aq;clear hr hF;go_enter Tryz.func54,Tryz.ntmps54
 go_wp2_with (first
  | (go_at_call 89;refine (Rq x.name _ pg).mono ?_;rintro e w2 ⟨rfl,ap⟩;obtain ⟨bX,cE⟩:=ay ap;have cr:w.heap.size < w2.heap.size:=(sq ap.size))
  | (go_at_call 90;refine (Jw x.labels _ _ _ _ _ (dO.ext bc) rfl dq Zb.out).mono ?_;rintro e w3 ⟨rfl,ba⟩;obtain ⟨cK,hf3⟩:=ay ba;have eN:w.heap.size < w3.heap.size:=(sq ba.size))
  | (go_at_call 91;refine (WJ x.af _ _ _ _ _ (mX.ext bc) rfl mW qh.out).mono ?_;rintro e w4 ⟨rfl,bC⟩;obtain ⟨ej,hf4⟩:=ay bC;have Wy:w.heap.size < w4.heap.size:=(sq bC.size))
  | (go_at_call 92;refine (RI x.ae _ _ _ _ _ (eG.ext bc) rfl fu Ux.out).mono ?_;rintro e w5 ⟨rfl,bj⟩;obtain ⟨j7,kD⟩:=ay bj;have Es:w.heap.size < w5.heap.size:=(sq bj.size))
  | go_in)
 all_goals first
  | (go_ret;refine ⟨?_,bc⟩;refine congrArg (λb=>Ending.returned (Value.bool b)) ?_;show (_:Bool) = _;(try clear bX cE);(try clear cK hf3);(try clear ej hf4);(try clear j7 kD);unfold GU;first | (simp [*];done) | (simp [*];omega) | (simp_all;done) | (simp_all;omega))
  | skip
theorem wH (x:nI) (cs:List Value) (F:List Nat) (w:World) (h:rd w x cs F) (hw:(x.wt:Int)<=1048576) :
 Calls Tryz.prog 41 #[.agg cs.toArray] w λe w'=>e = .returned (.bool (GU x))/\Below w.heap.size w w':=by
 have fv:x.wt = x.name.size+kL ao.wt x.labels+kL aE.wt x.af+kL bH.wt x.ae:=rfl;obtain ⟨dq,di⟩:=sW (xs:=x.labels) J;obtain ⟨mW,VU⟩:=Aa (xs:=x.af) J;obtain ⟨fu,dr⟩:=FQ (xs:=x.ae) J;exact vw x cs F w h J dq di mW VU fu dr
theorem yT (x:nI) (cs:List Value) (F:List Nat) (w:World) (h:rd w x cs F) (hw:(x.wt:Int)<=1048576) :
 Calls Tryz.prog 54 #[.agg cs.toArray] w λe w'=>e = .returned (.bool (GU x))/\Below w.heap.size w w':=by
 have fv:x.wt = x.name.size+kL ao.wt x.labels+kL aE.wt x.af+kL bH.wt x.ae:=rfl;obtain ⟨dq,di⟩:=sW (xs:=x.labels) J;obtain ⟨mW,VU⟩:=Aa (xs:=x.af) J;obtain ⟨fu,dr⟩:=FQ (xs:=x.ae) J;exact wM x cs F w h J dq di mW VU fu dr
structure U6 (x:az):Prop where
 ns:(x.name.size:Int)<=1048576
 ll:(x.labels.length:Int)<=1048576
 ls:∀l∈x.labels,(l.key.size:Int)<=1048576/\(l.value.size:Int)<=1048576
 tl:(x.aT.length:Int)<=1048576
 ts:∀l∈x.aT,(l.key.size:Int)<=1048576/\(l.value.size:Int)<=1048576
structure Xl (x:nI):Prop where
 ns:(x.name.size:Int)<=1048576
 ll:(x.labels.length:Int)<=1048576
 ls:∀l∈x.labels,(l.key.size:Int)<=1048576/\(l.value.size:Int)<=1048576
 nl:(x.af.length:Int)<=1048576
 Ti:∀l∈x.af,VX l
 tl:(x.ae.length:Int)<=1048576
 ts:∀l∈x.ae,VY l
theorem U6.o4 (x:az) (hw:(x.wt:Int)<=1048576):U6 x:=by
 have fv:x.wt = x.name.size+kL ao.wt x.labels+kL iU.wt x.aT:=rfl;obtain ⟨dq,di⟩:=sW (xs:=x.labels) J;obtain ⟨fu,dr⟩:=BH (xs:=x.aT) J;exact ⟨J,dq,di,fu,dr⟩
theorem Xl.o4 (x:nI) (hw:(x.wt:Int)<=1048576):Xl x:=by
 have fv:x.wt = x.name.size+kL ao.wt x.labels+kL aE.wt x.af+kL bH.wt x.ae:=rfl;obtain ⟨dq,di⟩:=sW (xs:=x.labels) J;obtain ⟨mW,VU⟩:=Aa (xs:=x.af) J;obtain ⟨fu,dr⟩:=FQ (xs:=x.ae) J;exact ⟨J,dq,di,mW,VU,fu,dr⟩
theorem aqB (nm:ByteArray) (xs:List ag):(F7 nm xs).length<=xs.length:=by unfold F7;rw [List.length_map];exact List.length_filter_le _ _
theorem alL {nm:ByteArray} {xs:List ag} {a b:Int} (h:vU (F7 nm xs) = some (a,b)):KF nm xs = .tuple #[.int .i64 a,.int .i64 b,.int .i64 (F7 nm xs).length,.bool true]:=by unfold KF;rw [h]
theorem alM {nm:ByteArray} {xs:List ag} (h:vU (F7 nm xs) = none):KF nm xs = .tuple #[.int .i64 0,.int .i64 0,.int .i64 0,.bool false]:=by unfold KF;rw [h]
def Eh (x:aU) (h:az):Bool:=match vU (F7 h.name x.O) with
 | none=>false
 | some (a,b)=>decide (a<=h.aw)&&(decide (b<=h.mem)&&decide (((F7 h.name x.O).length:Int)<=h.slots))
def dY (x:aU) (h:az):Bool:=Aj h&&Eh x h
def dQ (a b:az):Bool:=Op.bytesLess a.name.toList b.name.toList
def jT (x:aU) (p:ag):Bool:=GU p.aS&&((decide (1<=p.seq)&&decide (p.seq<=x.next - 1))&&((p.on.toList == []) || decide (0<=pK (iM p.on) x.aa)))
def dw (a b:ag):Bool:=Op.bytesLess a.aS.name.toList b.aS.name.toList
def seenIn (xs:List ag) (s:Int):Bool:=xs.any λq=>q.seq == s
def DN (xs:List ag) (k:Nat):Bool:=match xs[k]? with | none=>false | some p=>!(seenIn (xs.take k) p.seq)
theorem sG {xs:List ag} {k:Nat} (h:k < xs.length):DN xs k = !(seenIn (xs.take k) xs[k].seq):=by unfold DN;rw [List.getElem?_eq_getElem h]
def Em (x:aU):Bool:=decide ((x.aa.length:Int)<=8)&&(decide ((x.O.length:Int)<=12)&&((decide (1<=x.next)&&decide (x.next<=1000000000))&&zL x.weights.pack x.weights.spread x.weights.soft))
def iI (x:aU):Bool:=Em x&&((List.range x.aa.length).all (rowAt (dY x) dQ x.aa)&&((List.range x.O.length).all (rowAt (jT x) dw x.O)&&(List.range x.O.length).all (DN x.O)))
theorem oU {x:aU} (h:Em x = false):iI x = false:=by unfold iI;rw [h];rfl
theorem dW {x:aU} {k:Nat} (hk:k < x.aa.length) (h:rowAt (dY x) dQ x.aa k = false):iI x = false:=by unfold iI;rw [YF hk h];simp
theorem jP {x:aU} {k:Nat} (hk:k < x.O.length) (h:rowAt (jT x) dw x.O k = false):iI x = false:=by unfold iI;rw [YF hk h];simp
theorem DR {x:aU} {k:Nat} (hk:k < x.O.length) (h:DN x.O k = false):iI x = false:=by unfold iI;rw [YF hk h];simp
theorem OX {x:aU} (h0:Em x = true) (h1:∀j,j < x.aa.length->rowAt (dY x) dQ x.aa j = true) (h2:∀j,j < x.O.length->rowAt (jT x) dw x.O j = true) (h3:∀j,j < x.O.length->DN x.O j = true):iI x = true:=by
 unfold iI;rw [h0,YG h1,YG h2,YG h3];rfl
theorem pV {α:Type} {ok:α->Bool} {less:α->α->Bool} {xs:List α} {v:Bool} (h:0 < xs.length) (e:ok xs[0] = v):rowAt ok less xs 0 = v:=by rw [bF h,e]
theorem nM {α:Type} {ok:α->Bool} {less:α->α->Bool} {xs:List α} {j:Nat} {v u:Bool} (h:j+1 < xs.length) (e:ok xs[j+1] = v) (e2:less xs[j] xs[j+1] = u):rowAt ok less xs (j+1) = (v&&u):=by rw [yS h,e,e2]
theorem alN {x:aU} {h:az} (e:vU (F7 h.name x.O) = none):Eh x h = false:=by unfold Eh;rw [e]
theorem Xy {x:aU} {h:az} {a b:Int} (e:vU (F7 h.name x.O) = some (a,b)):Eh x h = (decide (a<=h.aw)&&(decide (b<=h.mem)&&decide (((F7 h.name x.O).length:Int)<=h.slots))):=by unfold Eh;rw [e]
theorem E8 (x:aU) (h:az):∃(a b n:Int) (vl:Bool),KF h.name x.O = .tuple #[.int .i64 a,.int .i64 b,.int .i64 n,.bool vl]/\Eh x h = (vl&&(decide (a<=h.aw)&&(decide (b<=h.mem)&&decide (n<=h.slots))))/\0<=n/\n<=x.O.length:=by
 cases e:vU (F7 h.name x.O) with
 | none=>exact ⟨0,0,0,false,alM e,by rw [alN e];rfl,J,J⟩
 | some ab =>obtain ⟨a,b⟩:=ab;have:=aqB h.name x.O;exact ⟨a,b,(F7 h.name x.O).length,true,alL e,by rw [Xy e];rfl,J,J⟩
theorem Sl.Ec {w:World} {xs:List ag} {A:Option Addr} {c:Nat} {F:List Nat} (h:Sl w xs A c F):∀p∈xs,aR p.seq:=by
 intro p hp;obtain ⟨k,hk,rfl⟩:=List.getElem_of_mem hp;obtain ⟨b,o,ck,Fk,_,_,_,hr,_⟩:=h.get hk;obtain ⟨gV,gW,lF,iR,iT,mV,dD,dF,iH,aq,hF,nY,iE,rF,rG,oZ,je,dN,eI,hseq⟩:=kE hr;exact hseq
end Go.Proofs.YtjahcnjmjahbaaaGreat
