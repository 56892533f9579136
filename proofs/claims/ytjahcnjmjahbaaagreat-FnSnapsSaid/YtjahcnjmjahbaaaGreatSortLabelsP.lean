/- SortLabels in plain Lean. No condition. -/
import Derived.Test.YtjahcnjmjahbaaaGreatNeedLess
import Derived.Test.YtjahcnjmjahbaaaGreatCopyC
import Derived.Test.YtjahcnjmjahbaaaGreatMarksP
namespace Go.Proofs.YtjahcnjmjahbaaaGreat
open Go.ChangeShapes Go.WideShapes Go.ChangeAt Go.RowKit
set_option linter.unusedVariables false
set_option linter.unusedSimpArgs false
set_option maxHeartbeats 4000000
set_option maxRecDepth 100000
def fk (x y:ao):Int:=Lib.compareBytes x.key.data.toList y.key.data.toList
def BG (xs:List ao):List ao × Bool:=if sD (bJ (kS fk) [] xs) = true then (bJ (kS fk) [] xs,true) else (xs,false)
theorem ayQ {xs:List ao} (h:sD (bJ (kS fk) [] xs) = true):BG xs = (bJ (kS fk) [] xs,true):=if_pos h
theorem aJ7 {xs:List ao} (h:sD (bJ (kS fk) [] xs) = false):BG xs = (xs,false):=if_neg (by rw [h];simp)
theorem aA2 {lt:ao→ao→Bool} {z:ao} : ∀(ys acc:List ao),z∈bJ lt acc ys→z∈acc∨z∈ys
 | [],acc,h=>.inl h
 | y :: ys,acc,h=>by
   rw [bJ] at h;rcases aA2 ys _ h with h | h
   ·exact Jp
   ·exact .inr (List.mem_cons_of_mem _ h)
theorem aJ8 {xs:List ao} {z:ao} (h:z∈bJ (kS fk) [] xs):z∈xs:=by
 rcases aA2 xs [] h with h | h
 ·cases h
 ·exact h
theorem aw0 (xs:List ao):(bJ (kS fk) [] xs).length = xs.length:=by rw [rD];simp
theorem aCI {lt:ao→ao→Bool} (f:ao→Nat) (y:ao):∀r:List ao,((OM lt y r).map f).sum = f y+(r.map f).sum
 | []=>by simp [OM]
 | x :: r=>by
   have:=aCI (lt:=lt) f y r;unfold OM;split <;> simp only [List.map_cons,List.sum_cons] <;> omega
theorem aA3 {lt:ao→ao→Bool} (f:ao→Nat):∀xs acc:List ao,((bJ lt acc xs).map f).sum = (acc.map f).sum+(xs.map f).sum
 | [],_=>by simp [bJ]
 | x :: xs,acc=>by
   have h1:=aA3 (lt:=lt) f xs (OM lt x acc);have h2:=aCI (lt:=lt) f x acc;rw [bJ,h1,h2];exact p'
theorem aJZ (xs:List ao):kL ao.wt (BG xs).1 = kL ao.wt xs:=by
 have h:=aA3 (lt:=kS fk) ao.wt xs [];have hl:=aw0 xs;unfold BG kL;split
 ·dsimp only;simp only [List.map_nil,List.sum_nil] at h;omega
 ·rfl
def wT (x:aU) (p:nI) (a b:ByteArray):List Int:=[Lib.compareInt (uH b x p) (uH a x p),Lib.compareBytes a.data.toList b.data.toList]
def CV (x:aU) (p:nI) (a b:ByteArray):Int:=Qa (wT x p a b)
def Jh (x:aU) (p:nI):List ByteArray:=bJ (kS (CV x p)) [] (Ar x p x.Z)
theorem ak2 (x:aU) (p:nI) (a b:ByteArray):kS (CV x p) a b = true↔uH b x p < uH a x p∨(uH a x p = uH b x p∧Op.bytesLess a.data.toList b.data.toList = true):=by
 have e:=Wx a.data.toList b.data.toList;unfold kS CV wT Qa Qa;rw [decide_eq_true_eq,← e];unfold Lib.compareInt;by_cases h1:uH b x p < uH a x p
 ·simp [h1]
 ·by_cases h2:uH a x p < uH b x p
  ·simp [h1,h2];omega
  ·have h3:uH a x p = uH b x p:=J;simp [h3,Qa];by_cases h4:Lib.compareBytes a.data.toList b.data.toList = 0
   ·simp [h4]
   ·simp [h4]
theorem UX {β:Type} {lt:β→β→Bool} {z:β} : ∀(ys acc:List β),z∈bJ lt acc ys→z∈acc∨z∈ys
 | [],acc,h=>.inl h
 | y :: ys,acc,h=>by
   rw [bJ] at h;rcases UX ys _ h with h | h
   ·exact Jp
   ·exact .inr (List.mem_cons_of_mem _ h)
theorem VZ (w:World):∀ys:List ByteArray,(∀y∈ys,y.size≤maxLen)→jo w ys (ys.map Value.string) []
 | [],_=>⟨rfl,rfl⟩
 | y :: ys,h=>⟨[.string y],ys.map Value.string,[],[],rfl,rfl,⟨rfl,rfl,h y (List.mem_cons_self ..)⟩,VZ w ys fun z hz=>h z (List.mem_cons_of_mem _ hz)⟩
theorem ML {w:World} : ∀(ys:List ByteArray) (ds:List Value) (G:List Nat),jo w ys ds G→ds = ys.map Value.string∧G = []∧∀y∈ys,y.size≤maxLen
 | [],ds,G,h=>⟨h.1,h.2,fun _ h=>by cases h⟩
 | y :: ys,ds,G,h=>by
   obtain ⟨c1,c2,F1,F2,rfl,rfl,h1,h2⟩:=h;obtain ⟨e1,e2,h1⟩:=h1;subst e1 e2;obtain ⟨e3,e4,h3⟩:=ML ys c2 F2 h2;subst e3 e4;refine ⟨rfl,rfl,fun z hz=>?_⟩;rcases List.mem_cons.1 hz with rfl | hz
   ·exact h1
   ·exact h3 z hz
theorem ac6 (x:aU) (p:nI):(Jh x p).length = (Ar x p x.Z).length:=by unfold Jh;rw [rD];simp
def GU (x:nI):Bool:=Qs x.name&&sD x.labels&&lI x.ag&&Ya x.ae&&(decide (0≤x.ax)&&decide (0≤x.mem))&&(decide (0≤x.aD)&&decide (x.aD≤1000))
def VX (l:ba):Prop:=(l.key.size:Int)≤1048576∧(l.values.length:Int)≤1048576∧∀v∈l.values,(v.size:Int)≤1048576
def VY (l:bH):Prop:=(l.key.size:Int)≤1048576∧(l.value.size:Int)≤1048576
theorem vw (x:nI) (cs:List Value) (F:List Nat) (w:World) (h:rd w x cs F) (pc:(x.name.size:Int)≤1048576) (ek:(x.labels.length:Int)≤1048576) (dB:∀l∈x.labels,(l.key.size:Int)≤1048576∧(l.value.size:Int)≤1048576) (mo:(x.ag.length:Int)≤1048576) (VU:∀l∈x.ag,VX l) (fv:(x.ae.length:Int)≤1048576) (dT:∀l∈x.ae,VY l) :
 Calls Tryz.prog 41 #[.agg cs.toArray] w fun e w'=>e = .returned (.bool (GU x))∧Below w.heap.size w w':=by
 have Zb:=I dB;have pd:=I VU;have Ux:=I dT;clear dB dT VU;have hr:=h;obtain ⟨gu,gy,jw,oh,nT,wG,fA,fB,jY,aw,hF,hname,dO,vg,cb,BJ,mX,eG⟩:=dL hr;subst aw;clear hr hF;go_enter Tryz.func41,Tryz.ntmps41
 go_wp2_with (first
  | (go_at_call 75;refine (Ro x.name _ pc).mono ?_;rintro e w2 ⟨rfl,av⟩;obtain ⟨ce,cK⟩:=ay av;have cD:w.heap.size < w2.heap.size:=(sq av.size))
  | (go_at_call 76;refine (Jv x.labels _ _ _ _ _ (dO.ext bs) rfl ek Zb.out).mono ?_;rintro e w3 ⟨rfl,bj⟩;obtain ⟨cP,hf3⟩:=ay bj;have eK:w.heap.size < w3.heap.size:=(sq bj.size))
  | (go_at_call 78;refine (WI x.ag _ _ _ _ _ (mX.ext bs) rfl mo pd.out).mono ?_;rintro e w4 ⟨rfl,bO⟩;obtain ⟨ei,hf4⟩:=ay bO;have Wy:w.heap.size < w4.heap.size:=(sq bO.size))
  | (go_at_call 79;refine (RH x.ae _ _ _ _ _ (eG.ext bs) rfl fv Ux.out).mono ?_;rintro e w5 ⟨rfl,bo⟩;obtain ⟨lp,ki⟩:=ay bo;have Es:w.heap.size < w5.heap.size:=(sq bo.size))
  | go_in)
 all_goals first
  | (go_ret;refine ⟨?_,bs⟩;refine congrArg (fun b=>Ending.returned (Value.bool b)) ?_;show (_:Bool) = _;(try clear ce cK);(try clear cP hf3);(try clear ei hf4);(try clear lp ki);unfold GU;first | (simp [*];done) | (simp [*];omega) | (simp_all;done) | (simp_all;omega))
  | skip
theorem wM (x:nI) (cs:List Value) (F:List Nat) (w:World) (h:rd w x cs F) (pc:(x.name.size:Int)≤1048576) (ek:(x.labels.length:Int)≤1048576) (dB:∀l∈x.labels,(l.key.size:Int)≤1048576∧(l.value.size:Int)≤1048576) (mo:(x.ag.length:Int)≤1048576) (VU:∀l∈x.ag,VX l) (fv:(x.ae.length:Int)≤1048576) (dT:∀l∈x.ae,VY l) :
 Calls Tryz.prog 54 #[.agg cs.toArray] w fun e w'=>e = .returned (.bool (GU x))∧Below w.heap.size w w':=by
 have Zb:=I dB;have pd:=I VU;have Ux:=I dT;clear dB dT VU;have hr:=h;obtain ⟨gu,gy,jw,oh,nT,wG,fA,fB,jY,aw,hF,hname,dO,vg,cb,BJ,mX,eG⟩:=dL hr;subst aw;clear hr hF;go_enter Tryz.func54,Tryz.ntmps54
 go_wp2_with (first
  | (go_at_call 89;refine (Rq x.name _ pc).mono ?_;rintro e w2 ⟨rfl,av⟩;obtain ⟨ce,cK⟩:=ay av;have cD:w.heap.size < w2.heap.size:=(sq av.size))
  | (go_at_call 90;refine (Jw x.labels _ _ _ _ _ (dO.ext bs) rfl ek Zb.out).mono ?_;rintro e w3 ⟨rfl,bj⟩;obtain ⟨cP,hf3⟩:=ay bj;have eK:w.heap.size < w3.heap.size:=(sq bj.size))
  | (go_at_call 91;refine (WJ x.ag _ _ _ _ _ (mX.ext bs) rfl mo pd.out).mono ?_;rintro e w4 ⟨rfl,bO⟩;obtain ⟨ei,hf4⟩:=ay bO;have Wy:w.heap.size < w4.heap.size:=(sq bO.size))
  | (go_at_call 92;refine (RI x.ae _ _ _ _ _ (eG.ext bs) rfl fv Ux.out).mono ?_;rintro e w5 ⟨rfl,bo⟩;obtain ⟨lp,ki⟩:=ay bo;have Es:w.heap.size < w5.heap.size:=(sq bo.size))
  | go_in)
 all_goals first
  | (go_ret;refine ⟨?_,bs⟩;refine congrArg (fun b=>Ending.returned (Value.bool b)) ?_;show (_:Bool) = _;(try clear ce cK);(try clear cP hf3);(try clear ei hf4);(try clear lp ki);unfold GU;first | (simp [*];done) | (simp [*];omega) | (simp_all;done) | (simp_all;omega))
  | skip
theorem wH (x:nI) (cs:List Value) (F:List Nat) (w:World) (h:rd w x cs F) (hw:(x.wt:Int)≤1048576) :
 Calls Tryz.prog 41 #[.agg cs.toArray] w fun e w'=>e = .returned (.bool (GU x))∧Below w.heap.size w w':=by
 have fS:x.wt = x.name.size+kL ao.wt x.labels+kL ba.wt x.ag+kL bH.wt x.ae:=rfl;obtain ⟨ek,dB⟩:=sW (xs:=x.labels) J;obtain ⟨mo,VU⟩:=Aa (xs:=x.ag) J;obtain ⟨fv,dT⟩:=FQ (xs:=x.ae) J;exact vw x cs F w h J ek dB mo VU fv dT
theorem yT (x:nI) (cs:List Value) (F:List Nat) (w:World) (h:rd w x cs F) (hw:(x.wt:Int)≤1048576) :
 Calls Tryz.prog 54 #[.agg cs.toArray] w fun e w'=>e = .returned (.bool (GU x))∧Below w.heap.size w w':=by
 have fS:x.wt = x.name.size+kL ao.wt x.labels+kL ba.wt x.ag+kL bH.wt x.ae:=rfl;obtain ⟨ek,dB⟩:=sW (xs:=x.labels) J;obtain ⟨mo,VU⟩:=Aa (xs:=x.ag) J;obtain ⟨fv,dT⟩:=FQ (xs:=x.ae) J;exact wM x cs F w h J ek dB mo VU fv dT
def MJ (n:ba):ByteArray:=bc n.key++jD n.op++jD n.values.length
def MI (n:ba) (j:Nat):ByteArray:=(n.values.take j).foldl (fun s v=>s++bc v) (MJ n)
def YZ (n:ba):ByteArray:=MI n n.values.length
def RF (x:nI):ByteArray:=bc x.name++Fe x.labels++jD x.ax++jD x.mem++jD x.aD++jD x.ag.length
def Bh (x:nI) (k:Nat):ByteArray:=(x.ag.take k).foldl (fun s n=>s++YZ n) (RF x)
def TQ (x:nI):ByteArray:=Bh x x.ag.length++jD x.ae.length
def pQ (b:Bool):Int:=if b then 1 else 0
def UE (t:bH):ByteArray:=bc t.key++jD (pQ t.equal)++bc t.value++jD t.al
def Ld (x:nI) (k:Nat):ByteArray:=(x.ae.take k).foldl (fun s t=>s++UE t) (TQ x)
def Bg (x:nI):ByteArray:=if GU x then Ld x x.ae.length else ⟨#[]⟩
theorem ap7 (b:Bool):bi (pQ b):=by cases b <;> exact ⟨by decide,by decide⟩
theorem X6 (n:ba):MI n 0 = MJ n:=rfl
theorem X7 {n:ba} {j:Nat} (h:j < n.values.length):MI n (j+1) = MI n j++bc n.values[j]:=FI _ _ _ _ h
theorem TP {x:nI} {k:Nat} (h:k < x.ag.length):Bh x (k+1) = Bh x k++YZ x.ag[k]:=FI _ _ _ _ h
theorem VW {x:nI} {k:Nat} (h:k < x.ae.length):Ld x (k+1) = Ld x k++UE x.ae[k]:=FI _ _ _ _ h
theorem IC (xs:List ao) (hl:(xs.length:Int)≤1048576) (hx:∀l∈xs,(l.key.size:Int)≤1048576∧(l.value.size:Int)≤1048576):((Fe xs).size:Int)≤2199045931018:=by
 exact IN
theorem aeG {n:ba} (hk:(n.key.size:Int)≤1048576) (ho:bi n.op) (hl:(n.values.length:Int)≤1048576):(MJ n).size≤1048606:=by
 have a:=iJ n.key J;have b:=bM n.op ho;have c:=bM n.values.length ⟨J,J⟩;unfold MJ;rw [ByteArray.size_append,ByteArray.size_append];omega
theorem RG {n:ba} (hk:(n.key.size:Int)≤1048576) (ho:bi n.op) (hl:(n.values.length:Int)≤1048576) (hv:∀v∈n.values,(v.size:Int)≤1048576):∀j,j≤n.values.length→(MI n j).size≤1048606+j * 1048586
 | 0,_=>by rw [X6];have:=aeG hk ho hl;omega
 | j+1,h=>by
   rw [X7 J,ByteArray.size_append];have h1:=RG hk ho hl hv j J;have h2:=iJ n.values[j] (by have:=hv n.values[j] (List.getElem_mem ..);omega);have h3:=hv n.values[j] (List.getElem_mem ..);omega
theorem ag7 {n:ba} (hk:(n.key.size:Int)≤1048576) (ho:bi n.op) (hl:(n.values.length:Int)≤1048576) (hv:∀v∈n.values,(v.size:Int)≤1048576):(YZ n).size≤1099523200000:=by
 have h1:=RG hk ho hl hv n.values.length (Nat.le_refl _);have h2:n.values.length * 1048586≤1048576 * 1048586:=Nat.mul_le_mul_right _ J;unfold YZ;omega
theorem Gf (x:nI) (hx:∀l∈x.ag,(l.key.size:Int)≤1048576∧(l.values.length:Int)≤1048576∧∀v∈l.values,(v.size:Int)≤1048576) (hi:∀n∈x.ag,bi n.op):∀k,k≤x.ag.length→(Bh x k).size≤(RF x).size+k * 1099523200000
 | 0,_=>by simp [Bh]
 | k+1,h=>by
   rw [TP J,ByteArray.size_append];have h1:=Gf x hx hi k J;obtain ⟨a,b,c⟩:=hx x.ag[k] (List.getElem_mem ..);have h2:=ag7 a (hi x.ag[k] (List.getElem_mem ..)) b c;omega
theorem aip {t:bH} (h1:(t.key.size:Int)≤1048576) (h2:(t.value.size:Int)≤1048576) (h3:bi t.al):(UE t).size≤2097192:=by
 have a:=iJ t.key J;have b:=iJ t.value J;have c:=bM t.al h3;have d:=bM (pQ t.equal) (ap7 _);unfold UE;rw [ByteArray.size_append,ByteArray.size_append,ByteArray.size_append];omega
theorem PO (x:nI) (hx:∀t∈x.ae,(t.key.size:Int)≤1048576∧(t.value.size:Int)≤1048576) (hi:∀t∈x.ae,bi t.al):∀k,k≤x.ae.length→(Ld x k).size≤(TQ x).size+k * 2097192
 | 0,_=>by simp [Ld]
 | k+1,h=>by
   rw [VW J,ByteArray.size_append];have h1:=PO x hx hi k J;have h2:=aip (hx x.ae[k] (List.getElem_mem ..)).1 (hx x.ae[k] (List.getElem_mem ..)).2 (hi x.ae[k] (List.getElem_mem ..));omega
theorem Sl.V5 {w:World} {xs:List ba} {A:Option Addr} {c:Nat} {F:List Nat} (h:Sl w xs A c F):∀t∈xs,bi t.op:=by
 intro p hp;obtain ⟨k,hk,rfl⟩:=List.getElem_of_mem hp;obtain ⟨b,o,ck,Fk,_,_,_,hr,_,_⟩:=h.get hk;obtain ⟨jy,ji,Bo,rfl,rfl,ca,fj,kV⟩:=og hr;exact fj
theorem Sl.V7 {w:World} {xs:List bH} {A:Option Addr} {c:Nat} {F:List Nat} (h:Sl w xs A c F):∀t∈xs,bi t.al:=by
 intro p hp;obtain ⟨k,hk,rfl⟩:=List.getElem_of_mem hp;obtain ⟨b,o,ck,Fk,_,_,_,hr,_,_⟩:=h.get hk;obtain ⟨rfl,rfl,ca,kP,lD⟩:=jv hr;exact lD
theorem amH (b:Bool) (w:World):Calls Tryz.prog 133 #[.bool b] w fun e w'=>e = .returned (.int .i64 (if b then 1 else 0))∧w' = w:=by
 cases b
 all_goals
  go_enter Tryz.func133,Tryz.ntmps133;go_wp2;go_ret
  exact ⟨rfl,rfl⟩
theorem ZC (x:nI) (cs:List Value) (F:List Nat) (w:World) (h:rd w x cs F) (hw:(x.wt:Int)≤1048576) :
 Calls Tryz.prog 13 #[.agg cs.toArray] w fun e w'=>e = .returned (.string (Bg x))∧Below w.heap.size w w':=by
 have fS:x.wt = x.name.size+kL ao.wt x.labels+kL ba.wt x.ag+kL bH.wt x.ae:=rfl;obtain ⟨ek,dB⟩:=sW (xs:=x.labels) J;obtain ⟨mo,VU⟩:=Aa (xs:=x.ag) J;obtain ⟨fv,dT⟩:=FQ (xs:=x.ae) J;have pc:(x.name.size:Int)≤1048576:=by omega
 have Zb:=I dB;have pd:=I VU;have Ux:=I dT;clear dB dT VU;have hr:=h;obtain ⟨gu,gy,jw,oh,nT,wG,fA,fB,jY,aw,hF,hname,dO,vg,cb,BJ,mX,eG⟩:=dL hr;subst aw;clear hr hF;cases hR:GU x with
 | false =>
   have bm:Bg x = ⟨#[]⟩:=(by unfold Bg;rw [hR];rfl);have HF:=I bm;have HR:=I hR;clear bm hR;go_enter Tryz.func13,Tryz.ntmps13;go_wp2_with fail
   refine (wH x _ _ _ (aJ h bs) hw).mono ?_;exact qS
 | true =>
   have bm:Bg x = Ld x x.ae.length:=(by unfold Bg;rw [hR];rfl);have HF:=I bm;have HR:=I hR;clear bm hR;go_enter Tryz.func13,Tryz.ntmps13;go_wp2_with fail
   refine (wH x _ _ _ (aJ h bs) hw).mono ?_;rw [HR.out];rintro e w2 ⟨rfl,av⟩;obtain ⟨ce,cK⟩:=ay av;have cD:w.heap.size < w2.heap.size:=(sq av.size);have lV:=iJ x.name J;have mA:=IC x.labels ek Zb.out;have M2:=bM x.ax vg;have M3:=bM x.mem cb;have M4:=bM x.aD BJ;have CM:bi (x.ag.length:Int):=(by unfold bi;omega);have Ns:bi (x.ae.length:Int):=(by unfold bi;omega);have M5:=bM x.ag.length CM;have hq7:=bM x.ae.length Ns;have bo:w2.cell? ⟨w.heap.size,5,none⟩ = some (.slice oh x.ag.length nT):=by exact qy
   have dv:w2.cell? ⟨w.heap.size,6,none⟩ = some (.slice fA x.ae.length fB):=by exact qy
   have eB:Below w.heap.size w w2:=bs;have Nt:=I mX.V5;have M6:=I eG.V7;have VV:(RF x).size≤2199046980000:=by unfold RF;simp only [ByteArray.size_append];omega
   go_wp2_with fail
   refine aF w2 U' U' (aj _) ?_
   repeat ((first | refine aG X ?_ | refine aH _ X Hk ?_);simp only [Act.put,pz])
   refine aN ?_;intro wn hn;replace hn:=hn.out;have CZ:=r' hn bo cD;have C0:=r' hn dv cD;go_wp2_with fail
   go_loopw [3,41] (fun s i wr=>∃k:Nat,k≤x.ag.length∧i = .int .i64 k∧s = .string (Bh x k)∧wr.cell? ⟨w.heap.size,5,none⟩ = some (.slice oh x.ag.length nT)∧wr.cell? ⟨w.heap.size,6,none⟩ = some (.slice fA x.ae.length fB)∧Below w.heap.size w wr) (fun _ i _=>x.ag.length - (intOf i).toNat)
   case atStart=>exact ⟨0,Nat.zero_le _,rfl,rfl,CZ,C0,ah eB hn⟩
   case round =>
    obtain ⟨k,hk,rfl,rfl,ir,pt,aE⟩:=hrel;have dm:w.heap.size < wr.heap.size:=World.block_lt_of_cell? wr _ ir;by_cases ap:k < x.ag.length
    ·obtain ⟨b,o,ck,Fk,rfl,o9,hbs,hr,bv,hc⟩:=(Sl.ext (w':=wr) (A:=oh) (c:=nT) mX aE).get ap;obtain ⟨DT,DU,alQ,aw,su,adC,hop3,abp⟩:=og hr;subst aw;obtain ⟨q0,q1,q2⟩:=iX 3 hc;clear hc;obtain ⟨cJ,cE,hs3⟩:=pd.out x.ag[k] (List.getElem_mem ..);have Bi:=iJ x.ag[k].key J;have oo:=bM x.ag[k].op hop3;have C1:bi (x.ag[k].values.length:Int):=(by unfold bi;omega);have wh:=bM x.ag[k].values.length C1;have PE:=Gf x pd.out Nt.out k hk;have nv:k * 1099523200000≤1048576 * 1099523200000:=Nat.mul_le_mul_right _ J;have Jf:=I (TP ap);have Wb:=I (RG cJ hop3 cE hs3);have Wc:=I hs3;clear hs3;generalize hS:Bh x k = S0 at Jf PE ⊢;obtain ⟨wo,hwo⟩:∃wo,wo = wr:=⟨_,rfl⟩;subst hwo;go_wp2_with fail
     refine aF _ U' U' (aj _) ?_
     repeat ((first | refine aG X ?_ | refine aH _ X zj ?_);simp only [Act.put,pz])
     refine aN ?_;intro CN j9;replace j9:=j9.out;have ex:Below wo.heap.size wo (wo.alloc (.cells #[.string x.ag[k].key,.int .i64 x.ag[k].op,.slice DT x.ag[k].values.length DU] 89)):=ak (aj _) _;have LL:CN.cell? ⟨wo.heap.size,2,none⟩ = some (.slice DT x.ag[k].values.length DU):=(by rw [(ay j9).1 _ _ S',cell_of_row _ _ _ _ _ _ (heap_alloc_new wo _)];rfl);have C3:Below wo.heap.size wo CN:=ah ex j9;have C4:=r' C3 ir dm;have C5:=r' C3 pt dm;have Nu:S0++(bc x.ag[k].key++jD x.ag[k].op++jD x.ag[k].values.length) = S0++MI x.ag[k] 0:=rfl;have Nv:S0++bc x.ag[k].key++jD x.ag[k].op++jD x.ag[k].values.length = S0++MI x.ag[k] 0:=(by rw [X6];unfold MJ;simp only [ByteArray.append_assoc]);have Wd:=I Nu;have C6:=I Nv;clear Nu Nv;go_wp2_with fail
     go_loopw [3,62] (fun s i wi=>∃j:Nat,j≤x.ag[k].values.length∧i = .int .i64 j∧s = .string (S0++MI x.ag[k] j)∧wi.cell? ⟨wo.heap.size,2,none⟩ = some (.slice DT x.ag[k].values.length DU)∧wi.cell? ⟨w.heap.size,5,none⟩ = some (.slice (some ⟨b,o,none⟩) x.ag.length nT)∧wi.cell? ⟨w.heap.size,6,none⟩ = some (.slice fA x.ae.length fB)∧Below wo.heap.size wo wi) (fun _ i _=>x.ag[k].values.length - (intOf i).toNat)
     case atStart=>exact ⟨0,Nat.zero_le _,rfl,by first | rw [Wd.out] | rw [C6.out],LL,C4,C5,C3⟩
     case round =>
      obtain ⟨j,hj,rfl,rfl,hvb,akY,aoz,hbi⟩:=hrel;have Ca:wo.heap.size < wr.heap.size:=World.block_lt_of_cell? wr _ hvb;have vn:w.heap.size < wr.heap.size:=World.block_lt_of_cell? wr _ akY;have m':=Wb.out j hj;have hjj:j * 1048586≤1048576 * 1048586:=Nat.mul_le_mul_right _ J;by_cases gC:j < x.ag[k].values.length
      ·obtain ⟨b2,o2,ck2,Fk2,rfl,ayO,uO,fc,iY,hc2'⟩:=(Sl.ext (w':=wr) (A:=DT) (c:=DU) abp hbi).get gC;obtain ⟨aw,abT,hsz2⟩:=fc;subst aw abT;have p0:wr.cell? ⟨b2,o2+j,none⟩ = some (.string x.ag[k].values[j]):=(by have:=hc2' 0 _ rfl;rwa [show o2+(j * bd.size ByteArray+0) = o2+j from by show o2+(j * 1+0) = _;omega] at this);clear hc2';have sU:=Wc.out x.ag[k].values[j] (List.getElem_mem ..);have eE:=iJ x.ag[k].values[j] J;have ry:=I (X7 gC);generalize hV:MI x.ag[k] j = V0 at ry m' ⊢;have We:((S0++V0).size:Int) = S0.size+V0.size:=(by rw [ByteArray.size_append];omega);go_wp2_with fail
       first
        | (refine aF _ U' U' (aj _) ?_
           repeat ((first | refine aG X ?_ | refine aH _ X zj ?_);simp only [Act.put,pz])
           refine aN ?_;intro Nw gF;replace gF:=gF.out;go_wp2
           exact ⟨⟨j+1,J,N',by rw [ry.out];simp only [ByteArray.append_assoc],((ay gF).1 _ _ Ca).trans hvb,((ay gF).1 _ _ vn).trans akY,((ay gF).1 _ _ vn).trans aoz,ah hbi gF⟩,by simp [intOf];omega⟩)
        | (refine (zV _ _ J).mono ?_
           rintro e Nw ⟨rfl,gF⟩;obtain ⟨ei,hf4⟩:=ay gF;go_wp2
           exact ⟨⟨j+1,J,N',by rw [ry.out];simp only [ByteArray.append_assoc],((ay gF).1 _ _ Ca).trans hvb,((ay gF).1 _ _ vn).trans akY,((ay gF).1 _ _ vn).trans aoz,ah hbi gF⟩,by simp [intOf];omega⟩)
      ·exact I3
    ·have bx:k = x.ag.length:=J;subst bx;have PE:=Gf x pd.out Nt.out x.ag.length (Nat.le_refl _);have nv:x.ag.length * 1099523200000≤1048576 * 1099523200000:=Nat.mul_le_mul_right _ J;have Wf:(TQ x).size≤(Bh x x.ag.length).size+10:=(by unfold TQ;rw [ByteArray.size_append];omega);have HM:=I (show TQ x = Bh x x.ag.length++jD x.ae.length from rfl);generalize hS:Bh x x.ag.length = S0 at HM PE Wf ⊢;obtain ⟨wo,hwo⟩:∃wo,wo = wr:=⟨_,rfl⟩;subst hwo;go_wp2_with fail
     refine (wE _ _ Ns).mono ?_;rintro e wn5 ⟨rfl,YW⟩;have C7:=r' YW ir dm;have C8:=r' YW pt dm;have Dc:=ah aE YW;go_wp2_with fail
     go_loopw [3,81] (fun s i wr=>∃k:Nat,k≤x.ae.length∧i = .int .i64 k∧s = .string (Ld x k)∧wr.cell? ⟨w.heap.size,5,none⟩ = some (.slice oh x.ag.length nT)∧wr.cell? ⟨w.heap.size,6,none⟩ = some (.slice fA x.ae.length fB)∧Below w.heap.size w wr) (fun _ i _=>x.ae.length - (intOf i).toNat)
     case atStart=>exact ⟨0,Nat.zero_le _,rfl,by rw [← HM.out];rfl,C7,C8,Dc⟩
     case round =>
      obtain ⟨k,hk,rfl,rfl,ir,pt,aE⟩:=hrel;have dm:w.heap.size < wr.heap.size:=World.block_lt_of_cell? wr _ ir;by_cases ap:k < x.ae.length
      ·obtain ⟨b,o,ck,Fk,rfl,o9,hbs,hr,bv,hc⟩:=(Sl.ext (w':=wr) (A:=fA) (c:=fB) eG aE).get ap;obtain ⟨aw,su,adC,abS,KZ⟩:=jv hr;subst aw;obtain ⟨q0,q1,q2,q3⟩:=qT 4 hc;clear hc;obtain ⟨cJ,cE⟩:=Ux.out x.ae[k] (List.getElem_mem ..);have Bi:=iJ x.ae[k].key J;have oo:=iJ x.ae[k].value J;have wh:=bM x.ae[k].al KZ;have gN:=bM 0 ⟨by decide,by decide⟩;have sU:=bM 1 ⟨by decide,by decide⟩;have dT:=PO x Ux.out M6.out k hk;have nv:k * 2097192≤1048576 * 2097192:=Nat.mul_le_mul_right _ J;have Jf:=I (VW ap);generalize hT:Ld x k = T0 at Jf dT ⊢;cases hE:x.ae[k].equal
       all_goals
        rw [hE] at q1;have vo:UE x.ae[k] = bc x.ae[k].key++jD (pQ x.ae[k].equal)++bc x.ae[k].value++jD x.ae[k].al:=rfl;rw [hE] at vo;simp only [pQ,if_true,Bool.false_eq_true,if_false] at vo;have Wg:=I vo;clear vo;go_wp2_with fail
        refine aF _ U' U' (aj _) ?_
        repeat ((first | refine aG X ?_ | refine aH _ X zj ?_);simp only [Act.put,pz])
        refine aN ?_;intro wn6 ss;replace ss:=ss.out;go_wp2;exact ⟨⟨k+1,J,N',by rw [Jf.out,Wg.out] <;> simp only [ByteArray.append_assoc],(((ay ss).1 _ _ (by simp;omega)).trans ((World.cell?_of_block (heap_alloc_old wr _ dm)).trans ir)),(((ay ss).1 _ _ (by simp;omega)).trans ((World.cell?_of_block (heap_alloc_old wr _ dm)).trans pt)),ah (ak aE _) ss⟩,by simp [intOf];omega⟩
      ·have bx:k = x.ae.length:=J;exact Ak
theorem ZB (x:nI) (cs:List Value) (F:List Nat) (w:World) (h:rd w x cs F) (hw:(x.wt:Int)≤1048576) :
 Calls Tryz.prog 83 #[.agg cs.toArray] w fun e w'=>e = .returned (.string (Bg x))∧Below w.heap.size w w':=by
 have fS:x.wt = x.name.size+kL ao.wt x.labels+kL ba.wt x.ag+kL bH.wt x.ae:=rfl;obtain ⟨ek,dB⟩:=sW (xs:=x.labels) J;obtain ⟨mo,VU⟩:=Aa (xs:=x.ag) J;obtain ⟨fv,dT⟩:=FQ (xs:=x.ae) J;have pc:(x.name.size:Int)≤1048576:=by omega
 have Zb:=I dB;have pd:=I VU;have Ux:=I dT;clear dB dT VU;have hr:=h;obtain ⟨gu,gy,jw,oh,nT,wG,fA,fB,jY,aw,hF,hname,dO,vg,cb,BJ,mX,eG⟩:=dL hr;subst aw;clear hr hF;cases hR:GU x with
 | false =>
   have bm:Bg x = ⟨#[]⟩:=(by unfold Bg;rw [hR];rfl);have HF:=I bm;have HR:=I hR;clear bm hR;go_enter Tryz.func83,Tryz.ntmps83;go_wp2_with fail
   refine (yT x _ _ _ (aJ h bs) hw).mono ?_;exact qS
 | true =>
   have bm:Bg x = Ld x x.ae.length:=(by unfold Bg;rw [hR];rfl);have HF:=I bm;have HR:=I hR;clear bm hR;go_enter Tryz.func83,Tryz.ntmps83;go_wp2_with fail
   refine (yT x _ _ _ (aJ h bs) hw).mono ?_;rw [HR.out];rintro e w2 ⟨rfl,av⟩;obtain ⟨ce,cK⟩:=ay av;have cD:w.heap.size < w2.heap.size:=(sq av.size);have lV:=iJ x.name J;have mA:=IC x.labels ek Zb.out;have M2:=bM x.ax vg;have M3:=bM x.mem cb;have M4:=bM x.aD BJ;have CM:bi (x.ag.length:Int):=(by unfold bi;omega);have Ns:bi (x.ae.length:Int):=(by unfold bi;omega);have M5:=bM x.ag.length CM;have hq7:=bM x.ae.length Ns;have bo:w2.cell? ⟨w.heap.size,5,none⟩ = some (.slice oh x.ag.length nT):=by exact qy
   have dv:w2.cell? ⟨w.heap.size,6,none⟩ = some (.slice fA x.ae.length fB):=by exact qy
   have eB:Below w.heap.size w w2:=bs;have Nt:=I mX.V5;have M6:=I eG.V7;have VV:(RF x).size≤2199046980000:=by unfold RF;simp only [ByteArray.size_append];omega
   go_wp2_with fail
   refine aF w2 U' U' (aj _) ?_
   repeat (first
    | (apply aG
       case hw=>rfl
       simp only [Act.put,pz])
    | (apply aH
       case hw=>rfl
       case h =>
        intro wq hq;have dc:=(aB hq).1;have lJ:=(aB hq).2;go_simp
        first
         | exact ⟨hq,rfl⟩
         | exact ⟨aQ hq _,rfl⟩
         | (first | (refine (zW x.name _ J).mono ?_;rintro e wz ⟨rfl,nV⟩;exact ⟨rfl,aI hq nV⟩) | (refine (Mc x.labels _ _ _ _ (dO.ext (ah eB hq)) ek Zb.out).mono ?_;rintro e wz ⟨rfl,nV⟩;exact ⟨rfl,aI hq nV⟩) | (refine (uP _ _ qe).mono ?_;rintro e wz ⟨rfl,nV⟩;exact ⟨rfl,aI hq nV⟩))
         | (simp only [↓IntWalk.iteOmega];exact ⟨hq,rfl⟩)
       simp only [Act.put,pz]))
   refine aN ?_;intro wn hn;replace hn:=hn.out;have CZ:=r' hn bo cD;have C0:=r' hn dv cD;go_wp2_with fail
   go_loopw [3,4] (fun s i wr=>∃k:Nat,k≤x.ag.length∧i = .int .i64 k∧s = .string (Bh x k)∧wr.cell? ⟨w.heap.size,5,none⟩ = some (.slice oh x.ag.length nT)∧wr.cell? ⟨w.heap.size,6,none⟩ = some (.slice fA x.ae.length fB)∧Below w.heap.size w wr) (fun _ i _=>x.ag.length - (intOf i).toNat)
   case atStart=>exact ⟨0,Nat.zero_le _,rfl,rfl,CZ,C0,ah eB hn⟩
   case round =>
    obtain ⟨k,hk,rfl,rfl,ir,pt,aE⟩:=hrel;have dm:w.heap.size < wr.heap.size:=World.block_lt_of_cell? wr _ ir;by_cases ap:k < x.ag.length
    ·obtain ⟨b,o,ck,Fk,rfl,o9,hbs,hr,bv,hc⟩:=(Sl.ext (w':=wr) (A:=oh) (c:=nT) mX aE).get ap;obtain ⟨DT,DU,alQ,aw,su,adC,hop3,abp⟩:=og hr;subst aw;obtain ⟨q0,q1,q2⟩:=iX 3 hc;clear hc;obtain ⟨cJ,cE,hs3⟩:=pd.out x.ag[k] (List.getElem_mem ..);have Bi:=iJ x.ag[k].key J;have oo:=bM x.ag[k].op hop3;have C1:bi (x.ag[k].values.length:Int):=(by unfold bi;omega);have wh:=bM x.ag[k].values.length C1;have PE:=Gf x pd.out Nt.out k hk;have nv:k * 1099523200000≤1048576 * 1099523200000:=Nat.mul_le_mul_right _ J;have Jf:=I (TP ap);have Wb:=I (RG cJ hop3 cE hs3);have Wc:=I hs3;clear hs3;generalize hS:Bh x k = S0 at Jf PE ⊢;obtain ⟨wo,hwo⟩:∃wo,wo = wr:=⟨_,rfl⟩;subst hwo;go_wp2_with fail
     refine aF _ U' U' (aj _) ?_
     repeat ((first | refine aG X ?_ | refine aH _ X Hv ?_);simp only [Act.put,pz])
     refine aN ?_;intro CN j9;replace j9:=j9.out;have ex:Below wo.heap.size wo (wo.alloc (.cells #[.string x.ag[k].key,.int .i64 x.ag[k].op,.slice DT x.ag[k].values.length DU] 89)):=ak (aj _) _;have LL:CN.cell? ⟨wo.heap.size,2,none⟩ = some (.slice DT x.ag[k].values.length DU):=(by rw [(ay j9).1 _ _ S',cell_of_row _ _ _ _ _ _ (heap_alloc_new wo _)];rfl);have C3:Below wo.heap.size wo CN:=ah ex j9;have C4:=r' C3 ir dm;have C5:=r' C3 pt dm;have Nu:S0++(bc x.ag[k].key++jD x.ag[k].op++jD x.ag[k].values.length) = S0++MI x.ag[k] 0:=rfl;have Nv:S0++bc x.ag[k].key++jD x.ag[k].op++jD x.ag[k].values.length = S0++MI x.ag[k] 0:=(by rw [X6];unfold MJ;simp only [ByteArray.append_assoc]);have Wd:=I Nu;have C6:=I Nv;clear Nu Nv;go_wp2_with fail
     go_loopw [3,6] (fun s i wi=>∃j:Nat,j≤x.ag[k].values.length∧i = .int .i64 j∧s = .string (S0++MI x.ag[k] j)∧wi.cell? ⟨wo.heap.size,2,none⟩ = some (.slice DT x.ag[k].values.length DU)∧wi.cell? ⟨w.heap.size,5,none⟩ = some (.slice (some ⟨b,o,none⟩) x.ag.length nT)∧wi.cell? ⟨w.heap.size,6,none⟩ = some (.slice fA x.ae.length fB)∧Below wo.heap.size wo wi) (fun _ i _=>x.ag[k].values.length - (intOf i).toNat)
     case atStart=>exact ⟨0,Nat.zero_le _,rfl,by first | rw [Wd.out] | rw [C6.out],LL,C4,C5,C3⟩
     case round =>
      obtain ⟨j,hj,rfl,rfl,hvb,akY,aoz,hbi⟩:=hrel;have Ca:wo.heap.size < wr.heap.size:=World.block_lt_of_cell? wr _ hvb;have vn:w.heap.size < wr.heap.size:=World.block_lt_of_cell? wr _ akY;have m':=Wb.out j hj;have hjj:j * 1048586≤1048576 * 1048586:=Nat.mul_le_mul_right _ J;by_cases gC:j < x.ag[k].values.length
      ·obtain ⟨b2,o2,ck2,Fk2,rfl,ayO,uO,fc,iY,hc2'⟩:=(Sl.ext (w':=wr) (A:=DT) (c:=DU) abp hbi).get gC;obtain ⟨aw,abT,hsz2⟩:=fc;subst aw abT;have p0:wr.cell? ⟨b2,o2+j,none⟩ = some (.string x.ag[k].values[j]):=(by have:=hc2' 0 _ rfl;rwa [show o2+(j * bd.size ByteArray+0) = o2+j from by show o2+(j * 1+0) = _;omega] at this);clear hc2';have sU:=Wc.out x.ag[k].values[j] (List.getElem_mem ..);have eE:=iJ x.ag[k].values[j] J;have ry:=I (X7 gC);generalize hV:MI x.ag[k] j = V0 at ry m' ⊢;have We:((S0++V0).size:Int) = S0.size+V0.size:=(by rw [ByteArray.size_append];omega);go_wp2_with fail
       first
        | (refine aF _ U' U' (aj _) ?_
           repeat ((first | refine aG X ?_ | refine aH _ X Hv ?_);simp only [Act.put,pz])
           refine aN ?_;intro Nw gF;replace gF:=gF.out;go_wp2
           exact ⟨⟨j+1,J,N',by rw [ry.out];simp only [ByteArray.append_assoc],((ay gF).1 _ _ Ca).trans hvb,((ay gF).1 _ _ vn).trans akY,((ay gF).1 _ _ vn).trans aoz,ah hbi gF⟩,by simp [intOf];omega⟩)
        | (refine (zW _ _ J).mono ?_
           rintro e Nw ⟨rfl,gF⟩;obtain ⟨ei,hf4⟩:=ay gF;go_wp2
           exact ⟨⟨j+1,J,N',by rw [ry.out];simp only [ByteArray.append_assoc],((ay gF).1 _ _ Ca).trans hvb,((ay gF).1 _ _ vn).trans akY,((ay gF).1 _ _ vn).trans aoz,ah hbi gF⟩,by simp [intOf];omega⟩)
      ·exact I3
    ·have bx:k = x.ag.length:=J;subst bx;have PE:=Gf x pd.out Nt.out x.ag.length (Nat.le_refl _);have nv:x.ag.length * 1099523200000≤1048576 * 1099523200000:=Nat.mul_le_mul_right _ J;have Wf:(TQ x).size≤(Bh x x.ag.length).size+10:=(by unfold TQ;rw [ByteArray.size_append];omega);have HM:=I (show TQ x = Bh x x.ag.length++jD x.ae.length from rfl);generalize hS:Bh x x.ag.length = S0 at HM PE Wf ⊢;obtain ⟨wo,hwo⟩:∃wo,wo = wr:=⟨_,rfl⟩;subst hwo;go_wp2_with fail
     refine (uP _ _ Ns).mono ?_;rintro e wn5 ⟨rfl,YW⟩;have C7:=r' YW ir dm;have C8:=r' YW pt dm;have Dc:=ah aE YW;go_wp2_with fail
     go_loopw [3,7] (fun s i wr=>∃k:Nat,k≤x.ae.length∧i = .int .i64 k∧s = .string (Ld x k)∧wr.cell? ⟨w.heap.size,5,none⟩ = some (.slice oh x.ag.length nT)∧wr.cell? ⟨w.heap.size,6,none⟩ = some (.slice fA x.ae.length fB)∧Below w.heap.size w wr) (fun _ i _=>x.ae.length - (intOf i).toNat)
     case atStart=>exact ⟨0,Nat.zero_le _,rfl,by rw [← HM.out];rfl,C7,C8,Dc⟩
     case round =>
      obtain ⟨k,hk,rfl,rfl,ir,pt,aE⟩:=hrel;have dm:w.heap.size < wr.heap.size:=World.block_lt_of_cell? wr _ ir;by_cases ap:k < x.ae.length
      ·obtain ⟨b,o,ck,Fk,rfl,o9,hbs,hr,bv,hc⟩:=(Sl.ext (w':=wr) (A:=fA) (c:=fB) eG aE).get ap;obtain ⟨aw,su,adC,abS,KZ⟩:=jv hr;subst aw;obtain ⟨q0,q1,q2,q3⟩:=qT 4 hc;clear hc;obtain ⟨cJ,cE⟩:=Ux.out x.ae[k] (List.getElem_mem ..);have Bi:=iJ x.ae[k].key J;have oo:=iJ x.ae[k].value J;have wh:=bM x.ae[k].al KZ;have gN:=bM 0 ⟨by decide,by decide⟩;have sU:=bM 1 ⟨by decide,by decide⟩;have dT:=PO x Ux.out M6.out k hk;have nv:k * 2097192≤1048576 * 2097192:=Nat.mul_le_mul_right _ J;have Jf:=I (VW ap);generalize hT:Ld x k = T0 at Jf dT ⊢;cases hE:x.ae[k].equal
       all_goals
        rw [hE] at q1;have vo:UE x.ae[k] = bc x.ae[k].key++jD (pQ x.ae[k].equal)++bc x.ae[k].value++jD x.ae[k].al:=rfl;rw [hE] at vo;simp only [pQ,if_true,Bool.false_eq_true,if_false] at vo;have Wg:=I vo;clear vo;go_wp2_with fail
        refine aF _ U' U' (aj _) ?_
        repeat (first
         | (apply aG
            case hw=>rfl
            simp only [Act.put,pz])
         | (apply aH
            case hw=>rfl
            case h =>
             intro wq hq;have dc:=(aB hq).1;have lJ:=(aB hq).2;go_simp
             first
              | exact ⟨hq,rfl⟩
              | exact ⟨aQ hq _,rfl⟩
              | (first | (refine (zW _ _ J).mono ?_;rintro e wz ⟨rfl,nV⟩;exact ⟨rfl,aI hq nV⟩) | (refine (uP _ _ qe).mono ?_;rintro e wz ⟨rfl,nV⟩;exact ⟨rfl,aI hq nV⟩) | (refine (amH _ _).mono ?_;rintro e wz ⟨rfl,rfl⟩;exact ⟨rfl,hq⟩))
              | (simp only [↓IntWalk.iteOmega];exact ⟨hq,rfl⟩)
            simp only [Act.put,pz]))
        refine aN ?_;intro wn6 ss;replace ss:=ss.out;go_wp2;exact ⟨⟨k+1,J,N',by rw [Jf.out,Wg.out] <;> simp only [ByteArray.append_assoc],(((ay ss).1 _ _ (by simp;omega)).trans ((World.cell?_of_block (heap_alloc_old wr _ dm)).trans ir)),(((ay ss).1 _ _ (by simp;omega)).trans ((World.cell?_of_block (heap_alloc_old wr _ dm)).trans pt)),ah (ak aE _) ss⟩,by simp [intOf];omega⟩
      ·have bx:k = x.ae.length:=J;exact Ak
end Go.Proofs.YtjahcnjmjahbaaaGreat
