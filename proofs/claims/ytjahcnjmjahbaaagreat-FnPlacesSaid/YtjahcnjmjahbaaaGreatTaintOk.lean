/- TaintOk, of the program and of the reference. No condition. -/
import Derived.Test.YtjahcnjmjahbaaaGreatSmalls
namespace Go.Proofs.YtjahcnjmjahbaaaGreat
open Go.ChangeShapes Go.WideShapes Go.ChangeAt Go.RowKit
set_option linter.unusedVariables false
set_option linter.unusedSimpArgs false
set_option maxHeartbeats 2000000
set_option maxRecDepth 100000
theorem Wn {s:ByteArray} (h:(s.toList == []) = true):AQ s = true:=by
 have h1:s.toList = []:=by simpa using h
 have h2:s.size = 0:=by exact K6
 unfold AQ;simp [h2]
theorem Wp {s:ByteArray} (h:(s.toList == []) = true):Cm s = false:=by
 have h1:s.toList = []:=by simpa using h
 have h2:s.size = 0:=by exact K6
 unfold Cm;rw [Ou O];simp
theorem Kz (l:List UInt8):l.isEmpty = (l == []):=by cases l <;> rfl
def Dp (x:iU):Bool:=Cm x.key&&AQ x.value&&(decide (1≤x.an)&&decide (x.an≤2))
theorem V9 (x:iU) (cs:List Value) (F:List Nat) (w:World) (h:rd w x cs F) (fI:(x.key.size:Int)≤1048576) (nz:(x.value.size:Int)≤1048576) :
 Calls Tryz.prog 125 #[.agg cs.toArray] w fun e w'=>e = .returned (.bool (Dp x))∧Below w.heap.size w w':=by
 obtain ⟨ax,qp,cc,kP,lD⟩:=oK h;subst ax;clear qp h;have ip:=I (Wn (s:=x.value));have ir:=I (Wp (s:=x.key));go_enter Tryz.func125,Tryz.ntmps125
 go_wp2_with (first
  | (go_at_call 123;refine (rX x.key _ fI).mono ?_;rintro e w2 ⟨rfl,ao⟩;obtain ⟨cb,cG⟩:=ay ao;have cI:w.heap.size < w2.heap.size:=(sq ao.size))
  | (go_at_call 124;refine (xQ x.value _ nz).mono ?_;rintro e w3 ⟨rfl,bd⟩;obtain ⟨cX,hf3⟩:=ay bd;have ez:w.heap.size < w3.heap.size:=(sq bd.size))
  | go_in)
 all_goals first
  | (go_ret;refine ⟨?_,bu⟩;refine congrArg (fun b=>Ending.returned (Value.bool b)) ?_;show (_:Bool) = _;(try clear cb cG);(try clear cX hf3);unfold Dp;(try simp only [Kz]);first | (simp [*];done) | (simp [*];omega) | (have QL:=ip.out;have QM:=ir.out;clear ip ir;(try clear ao);(try clear bd);simp at QL QM;simp_all;done) | (have QL:=ip.out;have QM:=ir.out;clear ip ir;(try clear ao);(try clear bd);simp at QL QM;simp_all;omega) | (have QL:=ip.out;have QM:=ir.out;clear ip ir;(try clear ao);(try clear bd);simp at QL QM;simp_all;exact Bool.or_comm _ _))
  | skip
theorem Wh (x:iU) (cs:List Value) (F:List Nat) (w:World) (h:rd w x cs F) (fI:(x.key.size:Int)≤1048576) (nz:(x.value.size:Int)≤1048576) :
 Calls Tryz.prog 141 #[.agg cs.toArray] w fun e w'=>e = .returned (.bool (Dp x))∧Below w.heap.size w w':=by
 obtain ⟨ax,qp,cc,kP,lD⟩:=oK h;subst ax;clear qp h;have ip:=I (Wn (s:=x.value));have ir:=I (Wp (s:=x.key));go_enter Tryz.func141,Tryz.ntmps141
 go_wp2_with (first
  | (go_at_call 136;refine (qK x.key _ fI).mono ?_;rintro e w2 ⟨rfl,ao⟩;obtain ⟨cb,cG⟩:=ay ao;have cI:w.heap.size < w2.heap.size:=(sq ao.size))
  | (go_at_call 137;refine (vH x.value _ nz).mono ?_;rintro e w3 ⟨rfl,bd⟩;obtain ⟨cX,hf3⟩:=ay bd;have ez:w.heap.size < w3.heap.size:=(sq bd.size))
  | go_in)
 all_goals first
  | (go_ret;refine ⟨?_,bu⟩;refine congrArg (fun b=>Ending.returned (Value.bool b)) ?_;show (_:Bool) = _;(try clear cb cG);(try clear cX hf3);unfold Dp;(try simp only [Kz]);first | (simp [*];done) | (simp [*];omega) | (have QL:=ip.out;have QM:=ir.out;clear ip ir;(try clear ao);(try clear bd);simp at QL QM;simp_all;done) | (have QL:=ip.out;have QM:=ir.out;clear ip ir;(try clear ao);(try clear bd);simp at QL QM;simp_all;omega) | (have QL:=ip.out;have QM:=ir.out;clear ip ir;(try clear ao);(try clear bd);simp at QL QM;simp_all;exact Bool.or_comm _ _))
  | skip
def Q5 (x:bH):Bool:=(Cm x.key || (x.key.toList == [])&&!x.equal)&&AQ x.value&&((x.value.toList == []) || x.equal)&&(decide (0≤x.an)&&decide (x.an≤2))
def AY (t:bH) (x:iU):Bool:=Q5 t&&Dp x&&((t.key.toList == []) || t.key.toList == x.key.toList)&&(!t.equal || t.value.toList == x.value.toList)&&(t.an == 0 || t.an == x.an)
theorem Na (x:bH) (cs:List Value) (F:List Nat) (w:World) (h:rd w x cs F) (fI:(x.key.size:Int)≤1048576) (nz:(x.value.size:Int)≤1048576) :
 Calls Tryz.prog 129 #[.agg cs.toArray] w fun e w'=>e = .returned (.bool (Q5 x))∧Below w.heap.size w w':=by
 obtain ⟨ax,qp,cc,kP,lD⟩:=jv h;subst ax;clear qp h;have ip:=I (Wn (s:=x.value));have ir:=I (Wp (s:=x.key));go_enter Tryz.func129,Tryz.ntmps129
 go_wp2_with (first
  | (go_at_call 123;refine (rX x.key _ fI).mono ?_;rintro e w2 ⟨rfl,ao⟩;obtain ⟨cb,cG⟩:=ay ao;have cI:w.heap.size < w2.heap.size:=(sq ao.size))
  | (go_at_call 124;refine (xQ x.value _ nz).mono ?_;rintro e w3 ⟨rfl,bd⟩;obtain ⟨cX,hf3⟩:=ay bd;have ez:w.heap.size < w3.heap.size:=(sq bd.size))
  | go_in)
 all_goals first
  | (go_ret;refine ⟨?_,bu⟩;refine congrArg (fun b=>Ending.returned (Value.bool b)) ?_;show (_:Bool) = _;(try clear cb cG);(try clear cX hf3);unfold Q5;(try simp only [Kz]);first | (simp [*];done) | (simp [*];omega) | (have QL:=ip.out;have QM:=ir.out;clear ip ir;(try clear ao);(try clear bd);simp at QL QM;simp_all;done) | (have QL:=ip.out;have QM:=ir.out;clear ip ir;(try clear ao);(try clear bd);simp at QL QM;simp_all;omega) | (have QL:=ip.out;have QM:=ir.out;clear ip ir;(try clear ao);(try clear bd);simp at QL QM;simp_all;exact Bool.or_comm _ _))
  | skip
theorem Nb (x:bH) (cs:List Value) (F:List Nat) (w:World) (h:rd w x cs F) (fI:(x.key.size:Int)≤1048576) (nz:(x.value.size:Int)≤1048576) :
 Calls Tryz.prog 139 #[.agg cs.toArray] w fun e w'=>e = .returned (.bool (Q5 x))∧Below w.heap.size w w':=by
 obtain ⟨ax,qp,cc,kP,lD⟩:=jv h;subst ax;clear qp h;have ip:=I (Wn (s:=x.value));have ir:=I (Wp (s:=x.key));go_enter Tryz.func139,Tryz.ntmps139
 go_wp2_with (first
  | (go_at_call 136;refine (qK x.key _ fI).mono ?_;rintro e w2 ⟨rfl,ao⟩;obtain ⟨cb,cG⟩:=ay ao;have cI:w.heap.size < w2.heap.size:=(sq ao.size))
  | (go_at_call 137;refine (vH x.value _ nz).mono ?_;rintro e w3 ⟨rfl,bd⟩;obtain ⟨cX,hf3⟩:=ay bd;have ez:w.heap.size < w3.heap.size:=(sq bd.size))
  | go_in)
 all_goals first
  | (go_ret;refine ⟨?_,bu⟩;refine congrArg (fun b=>Ending.returned (Value.bool b)) ?_;show (_:Bool) = _;(try clear cb cG);(try clear cX hf3);unfold Q5;(try simp only [Kz]);first | (simp [*];done) | (simp [*];omega) | (have QL:=ip.out;have QM:=ir.out;clear ip ir;(try clear ao);(try clear bd);simp at QL QM;simp_all;done) | (have QL:=ip.out;have QM:=ir.out;clear ip ir;(try clear ao);(try clear bd);simp at QL QM;simp_all;omega) | (have QL:=ip.out;have QM:=ir.out;clear ip ir;(try clear ao);(try clear bd);simp at QL QM;simp_all;exact Bool.or_comm _ _))
  | skip
theorem aJ {α:Type} [bk α] {w w':World} {x:α} {cs:List Value} {F:List Nat} (h:rd w x cs F) (hb:Below w.heap.size w w'):rd w' x cs F :=
 bk.frame h (fun b ei=>hb.block b (bk.lt h b ei)) hb.size
theorem YG {p:Nat→Bool} {n:Nat} (h:∀j,j < n→p j = true):(List.range n).all p = true:=by
 rw [List.all_eq_true];intro x hx;exact h x (List.mem_range.1 hx)
theorem YF {p:Nat→Bool} {n k:Nat} (hk:k < n) (h:p k = false):(List.range n).all p = false:=by
 rw [List.all_eq_false];exact ⟨k,List.mem_range.2 hk,by simp [h]⟩
theorem gq {p:Nat→Bool} {k:Nat} (h:∀j,j < k→p j = true) (hp:p k = true):∀j,j < k+1→p j = true:=fun j hj=>by
 rcases Nat.lt_or_ge j k with h1 | h1
 ·exact h j h1
 ·obtain rfl:j = k:=by omega
  exact hp
def bI {α:Type} (ok:α→Bool) (less:α→α→Bool) (xs:List α) (k:Nat):Bool :=
 match xs[k]? with
 | none=>false
 | some l=>ok l&&(match k with | 0=>true | j+1=>match xs[j]? with | none=>false | some p=>less p l)
theorem b8 {α:Type} {ok:α→Bool} {less:α→α→Bool} {xs:List α} (h:0 < xs.length):bI ok less xs 0 = ok xs[0]:=by
 unfold bI;rw [List.getElem?_eq_getElem h];simp
theorem yS {α:Type} {ok:α→Bool} {less:α→α→Bool} {xs:List α} {j:Nat} (h:j+1 < xs.length):bI ok less xs (j+1) = (ok xs[j+1]&&less xs[j] xs[j+1]):=by
 simp only [bI,List.getElem?_eq_getElem h,List.getElem?_eq_getElem (show j < xs.length by omega)]
def nF {α:Type} (ok:α→Bool) (less:α→α→Bool) (most:Int) (xs:List α):Bool:=decide ((xs.length:Int)≤most)&&(List.range xs.length).all (bI ok less xs)
theorem wU {α:Type} {ok:α→Bool} {less:α→α→Bool} {most:Int} {xs:List α} {k:Nat} (hk:k < xs.length) (h:bI ok less xs k = false):nF ok less most xs = false:=by unfold nF;rw [YF hk h];simp
theorem Jz {α:Type} {ok:α→Bool} {less:α→α→Bool} {most:Int} {xs:List α} (h:¬(xs.length:Int)≤most):nF ok less most xs = false:=by unfold nF;simp [h]
theorem Jy {α:Type} {ok:α→Bool} {less:α→α→Bool} {most:Int} {xs:List α} (hl:(xs.length:Int)≤most) (h:∀j,j < xs.length→bI ok less xs j = true):nF ok less most xs = true:=by unfold nF;rw [YG h];simp [hl]
def bl (a b:ByteArray):Bool:=Op.bytesLess a.toList b.toList
def uh (x:bj):Bool:=Cm x.key&&(decide (1≤x.op)&&decide (x.op≤4))&&(if 2 < x.op then decide (x.values.length = 0) else decide (1≤x.values.length)&&nF AQ bl 4 x.values)
theorem Zr {x:bj} (h:Cm x.key = false):uh x = false:=by unfold uh;rw [h];simp
theorem Zs {x:bj} (h:¬(1≤x.op∧x.op≤4)):uh x = false:=by
 have:(decide (1≤x.op)&&decide (x.op≤4)) = false:=by rw [← Bool.not_eq_true,Bool.and_eq_true,decide_eq_true_eq,decide_eq_true_eq];exact h
 unfold uh;rw [this];simp
theorem Zt {x:bj} (hk:Cm x.key = true) (h:1≤x.op∧x.op≤4) (h2:2 < x.op):uh x = decide (x.values.length = 0):=by
 unfold uh;rw [hk,if_pos h2];simp [h.1,h.2]
theorem Zw {x:bj} (hk:Cm x.key = true) (h:1≤x.op∧x.op≤4) (h2:¬2 < x.op):uh x = (decide (1≤x.values.length)&&nF AQ bl 4 x.values):=by
 unfold uh;rw [hk,if_neg h2];simp [h.1,h.2]
theorem ahM (x:bH) (y:iU) (cs ds:List Value) (F G:List Nat) (w:World) (h:rd w x cs F) (h':rd w y ds G) (fI:(x.key.size:Int)≤1048576) (nz:(x.value.size:Int)≤1048576) (ur:(y.key.size:Int)≤1048576) (kB:(y.value.size:Int)≤1048576) :
 Calls Tryz.prog 230 #[.agg cs.toArray,.agg ds.toArray] w fun e w'=>e = .returned (.bool (AY x y))∧Below w.heap.size w w':=by
 obtain ⟨ax,hF1,xO,xk,zT⟩:=jv h;obtain ⟨jU,lH,vC,rP,uY⟩:=oK h';subst ax jU;subst hF1 lH;go_enter Tryz.func230,Tryz.ntmps230
 go_wp2_with (first
  | (go_at_call 129;refine (Na x _ [] _ (aJ h bu) fI nz).mono ?_;rintro e w2 ⟨rfl,ao⟩;obtain ⟨cb,cG⟩:=ay ao;have cI:w.heap.size+1 < w2.heap.size:=(sq ao.size);have kk:w.heap.size < w2.heap.size:=O)
  | (go_at_call 125;refine (V9 y _ [] _ (aJ h' bu) ur kB).mono ?_;rintro e w3 ⟨rfl,bd⟩;obtain ⟨cX,hf3⟩:=ay bd;have ez:w.heap.size+1 < w3.heap.size:=(sq bd.size);have uC:w.heap.size < w3.heap.size:=O))
 all_goals first
  | (go_ret;refine ⟨?_,bu⟩;refine congrArg (fun b=>Ending.returned (Value.bool b)) ?_;show (_:Bool) = _;(try clear cb cG ao);(try clear cX hf3 bd);unfold AY;(try simp only [Kz]);first | (simp [*];done) | (simp_all;done) | (simp_all;omega) | (simp_all;exact Bool.or_comm _ _))
  | skip
theorem ahN (x:bH) (y:iU) (cs ds:List Value) (F G:List Nat) (w:World) (h:rd w x cs F) (h':rd w y ds G) (fI:(x.key.size:Int)≤1048576) (nz:(x.value.size:Int)≤1048576) (ur:(y.key.size:Int)≤1048576) (kB:(y.value.size:Int)≤1048576) :
 Calls Tryz.prog 203 #[.agg cs.toArray,.agg ds.toArray] w fun e w'=>e = .returned (.bool (AY x y))∧Below w.heap.size w w':=by
 obtain ⟨ax,hF1,xO,xk,zT⟩:=jv h;obtain ⟨jU,lH,vC,rP,uY⟩:=oK h';subst ax jU;subst hF1 lH;go_enter Tryz.func203,Tryz.ntmps203
 go_wp2_with (first
  | (go_at_call 139;refine (Nb x _ [] _ (aJ h bu) fI nz).mono ?_;rintro e w2 ⟨rfl,ao⟩;obtain ⟨cb,cG⟩:=ay ao;have cI:w.heap.size+1 < w2.heap.size:=(sq ao.size);have kk:w.heap.size < w2.heap.size:=O)
  | (go_at_call 141;refine (Wh y _ [] _ (aJ h' bu) ur kB).mono ?_;rintro e w3 ⟨rfl,bd⟩;obtain ⟨cX,hf3⟩:=ay bd;have ez:w.heap.size+1 < w3.heap.size:=(sq bd.size);have uC:w.heap.size < w3.heap.size:=O))
 all_goals first
  | (go_ret;refine ⟨?_,bu⟩;refine congrArg (fun b=>Ending.returned (Value.bool b)) ?_;show (_:Bool) = _;(try clear cb cG ao);(try clear cX hf3 bd);unfold AY;(try simp only [Kz]);first | (simp [*];done) | (simp_all;done) | (simp_all;omega) | (simp_all;exact Bool.or_comm _ _))
  | skip
def zX (l:aD):Bool:=Cm l.key&&AQ l.value
def zi (a b:aD):Bool:=Op.bytesLess a.key.toList b.key.toList
def sD (xs:List aD):Bool:=nF zX zi 6 xs
theorem Jv (xs:List aD) (A:Option Addr) (n c:Nat) (F:List Nat) (w:World) (h:Sl w xs A c F) (hn:n = xs.length) (hl:(xs.length:Int)≤1048576) (cS:∀l∈xs,(l.key.size:Int)≤1048576∧(l.value.size:Int)≤1048576) :
 Calls Tryz.prog 76 #[.slice A n c] w fun e w'=>e = .returned (.bool (sD xs))∧Below w.heap.size w w':=by
 subst hn;have Eo:=I cS;clear cS;go_enter Tryz.func76,Tryz.ntmps76;go_wp2_with fail
 go_loopw [7] (fun i wr=>∃k:Nat,k≤xs.length∧i = .int .i64 k∧Hid (∀j,j < k→bI zX zi xs j = true)∧Below w.heap.size w wr) (fun i _=>xs.length - (intOf i).toNat)
 case atStart=>exact ⟨0,Nat.zero_le _,rfl,(fun j hj=>by omega),bu⟩
 case round =>
  obtain ⟨k,hk,rfl,hall,az⟩:=hrel;by_cases ap:k < xs.length
  ·obtain rfl | ⟨j,rfl⟩:k = 0∨∃j,k = j+1:=by cases k with | zero=>exact .inl rfl | succ j=>exact .inr ⟨j,rfl⟩
   ·obtain ⟨b,o,ck,Fk,rfl,o9,hbs,hr,br,hc⟩:=(Sl.ext (w':=wr) (A:=A) (c:=c) h az).get ap;obtain ⟨ax,su,cc,kP⟩:=vO hr;subst ax;obtain ⟨q0,q1⟩:=vf 2 hc;clear hc;simp only [Nat.zero_mul,Nat.add_zero] at q0 q1;have cW:=(Eo.out xs[0] (List.getElem_mem ..)).1;have cK:=(Eo.out xs[0] (List.getElem_mem ..)).2;cases h1:Cm xs[0].key <;> cases h2:AQ xs[0].value
    all_goals
     have hp:=b8 (ok:=zX) (less:=zi) ap;unfold zX at hp;rw [h1,h2] at hp;simp only [Bool.false_and,Bool.and_false,Bool.and_true,Bool.and_self] at hp;change bI zX zi xs _ = _ at hp;have H1:=I h1;have H2:=I h2
     first
      | have HN:=I (gq hall.out hp)
      | have HF:=I (wU (most:=6) ap hp)
     clear h1 h2 hp;go_wp2_with fail
     refine aF _ U' U' (aj _) ?_
     repeat (first
      | (apply aG
         case hw=>rfl
         simp only [Act.put,pz])
      | (apply aH
         case hw=>rfl
         case h =>
          intro wq hq;have dP:=(aB hq).1;have lJ:=(aB hq).2;go_simp
          first
           | exact ⟨hq,rfl⟩
           | exact ⟨aQ hq _,rfl⟩
           | (first | (refine (rX xs[0].key _ cW).mono ?_;rw [H1.out];rintro e w2 ⟨rfl,ao⟩;exact ⟨rfl,aI hq ao⟩) | (refine (xQ xs[0].value _ cK).mono ?_;rw [H2.out];rintro e w2 ⟨rfl,ao⟩;exact ⟨rfl,aI hq ao⟩))
           | (simp only [↓IntWalk.iteOmega];exact ⟨hq,rfl⟩)
         simp only [Act.put,pz]))
     refine aN ?_;intro wn hn;replace hn:=hn.out;go_wp2
     first
      | exact ⟨⟨0+1,O,N',HN.out,ah (ak az _) hn⟩,by simp [intOf];omega⟩
      | (go_ret;exact ⟨by unfold sD;rw [HF.out];rfl,ah (ak az _) hn⟩)
   ·obtain ⟨b,o,ck,Fk,rfl,o9,hbs,hr,br,hc⟩:=(Sl.ext (w':=wr) (A:=A) (c:=c) h az).get ap;obtain ⟨ax,su,cc,kP⟩:=vO hr;subst ax;obtain ⟨q0,q1⟩:=vf 2 hc;clear hc;obtain ⟨b',o',TY,Xw,e,Ht,hbs',cj,zQ,hc'⟩:=Sl.get (Sl.ext (w':=wr) (c:=c) h az) (show j < xs.length by omega);obtain ⟨jU,abT,vC,rP⟩:=vO cj;subst jU;obtain ⟨rfl,rfl⟩:b' = b∧o' = o:=by simpa using e.symm
    clear e;obtain ⟨p0,p1⟩:=vf 2 hc';clear hc';have nG:IntKind.i64.wrap (j:Int) = j:=IntWalk.i64_in _ O;have jt:j < xs.length:=O;have cW:=(Eo.out xs[j+1] (List.getElem_mem ..)).1;have cK:=(Eo.out xs[j+1] (List.getElem_mem ..)).2;cases h1:Cm xs[j+1].key <;> cases h2:AQ xs[j+1].value <;> cases h3:Op.bytesLess xs[j].key.toList xs[j+1].key.toList
    all_goals
     have hp:=yS (ok:=zX) (less:=zi) ap;unfold zX zi at hp;rw [h1,h2,h3] at hp;simp only [Bool.false_and,Bool.and_false,Bool.and_true,Bool.and_self] at hp;change bI zX zi xs _ = _ at hp;have H1:=I h1;have H2:=I h2
     first
      | have HN:=I (gq hall.out hp)
      | have HF:=I (wU (most:=6) ap hp)
     clear h1 h2 hp;go_wp2_with fail
     refine aF _ U' U' (aj _) ?_
     repeat (first
      | (apply aG
         case hw=>rfl
         simp only [Act.put,pz])
      | (apply aH
         case hw=>rfl
         case h =>
          intro wq hq;have dP:=(aB hq).1;have lJ:=(aB hq).2;go_simp
          first
           | exact ⟨hq,rfl⟩
           | exact ⟨aQ hq _,rfl⟩
           | (first | (refine (rX xs[j+1].key _ cW).mono ?_;rw [H1.out];rintro e w2 ⟨rfl,ao⟩;exact ⟨rfl,aI hq ao⟩) | (refine (xQ xs[j+1].value _ cK).mono ?_;rw [H2.out];rintro e w2 ⟨rfl,ao⟩;exact ⟨rfl,aI hq ao⟩))
           | (simp only [↓IntWalk.iteOmega];exact ⟨hq,rfl⟩)
         simp only [Act.put,pz]))
     refine aN ?_;intro wn hn;replace hn:=hn.out;go_wp2
     first
      | exact ⟨⟨j+1+1,O,N',HN.out,ah (ak az _) hn⟩,by simp [intOf];omega⟩
      | (go_ret;exact ⟨by unfold sD;rw [HF.out];rfl,ah (ak az _) hn⟩)
  ·have bz:k = xs.length:=O;subst bz;by_cases hm:(xs.length:Int)≤6
   ·have HF:=I (Jy hm hall.out);go_wp2;go_ret
    exact ⟨by unfold sD;rw [HF.out];first | rfl | simp [hm],az⟩
   ·have HF:=I (Jz (ok:=zX) (less:=zi) hm);go_wp2;go_ret
    exact ⟨by unfold sD;rw [HF.out];first | rfl | simp [hm],az⟩
theorem Jw (xs:List aD) (A:Option Addr) (n c:Nat) (F:List Nat) (w:World) (h:Sl w xs A c F) (hn:n = xs.length) (hl:(xs.length:Int)≤1048576) (cS:∀l∈xs,(l.key.size:Int)≤1048576∧(l.value.size:Int)≤1048576) :
 Calls Tryz.prog 90 #[.slice A n c] w fun e w'=>e = .returned (.bool (sD xs))∧Below w.heap.size w w':=by
 subst hn;have Eo:=I cS;clear cS;by_cases hm:(xs.length:Int)≤6
 ·go_enter Tryz.func90,Tryz.ntmps90;go_wp2_with fail
  go_loopw [3] (fun i wr=>∃k:Nat,k≤xs.length∧i = .int .i64 k∧Hid (∀j,j < k→bI zX zi xs j = true)∧Below w.heap.size w wr) (fun i _=>xs.length - (intOf i).toNat)
  case atStart=>exact ⟨0,Nat.zero_le _,rfl,(fun j hj=>by omega),bu⟩
  case round =>
   obtain ⟨k,hk,rfl,hall,az⟩:=hrel;by_cases ap:k < xs.length
   ·obtain rfl | ⟨j,rfl⟩:k = 0∨∃j,k = j+1:=by cases k with | zero=>exact .inl rfl | succ j=>exact .inr ⟨j,rfl⟩
    ·obtain ⟨b,o,ck,Fk,rfl,o9,hbs,hr,br,hc⟩:=(Sl.ext (w':=wr) (A:=A) (c:=c) h az).get ap;obtain ⟨ax,su,cc,kP⟩:=vO hr;subst ax;obtain ⟨q0,q1⟩:=vf 2 hc;clear hc;simp only [Nat.zero_mul,Nat.add_zero] at q0 q1;have cW:=(Eo.out xs[0] (List.getElem_mem ..)).1;have cK:=(Eo.out xs[0] (List.getElem_mem ..)).2;cases h1:Cm xs[0].key <;> cases h2:AQ xs[0].value
     all_goals
      have hp:=b8 (ok:=zX) (less:=zi) ap;unfold zX at hp;rw [h1,h2] at hp;simp only [Bool.false_and,Bool.and_false,Bool.and_true,Bool.and_self] at hp;change bI zX zi xs _ = _ at hp;have H1:=I h1;have H2:=I h2
      first
       | have HN:=I (gq hall.out hp)
       | have HF:=I (wU (most:=6) ap hp)
      clear h1 h2 hp;go_wp2_with fail
      refine aF _ U' U' (aj _) ?_
      repeat (first
       | (apply aG
          case hw=>rfl
          simp only [Act.put,pz])
       | (apply aH
          case hw=>rfl
          case h =>
           intro wq hq;have dP:=(aB hq).1;have lJ:=(aB hq).2;go_simp
           first
            | exact ⟨hq,rfl⟩
            | exact ⟨aQ hq _,rfl⟩
            | (first | (refine (qK xs[0].key _ cW).mono ?_;rw [H1.out];rintro e w2 ⟨rfl,ao⟩;exact ⟨rfl,aI hq ao⟩) | (refine (vH xs[0].value _ cK).mono ?_;rw [H2.out];rintro e w2 ⟨rfl,ao⟩;exact ⟨rfl,aI hq ao⟩))
            | (simp only [↓IntWalk.iteOmega];exact ⟨hq,rfl⟩)
          simp only [Act.put,pz]))
      refine aN ?_;intro wn hn;replace hn:=hn.out;go_wp2
      first
       | exact ⟨⟨0+1,O,N',HN.out,ah az hn⟩,by simp [intOf];omega⟩
       | (go_ret;exact ⟨by unfold sD;rw [HF.out];rfl,ah az hn⟩)
    ·obtain ⟨b,o,ck,Fk,rfl,o9,hbs,hr,br,hc⟩:=(Sl.ext (w':=wr) (A:=A) (c:=c) h az).get ap;obtain ⟨ax,su,cc,kP⟩:=vO hr;subst ax;obtain ⟨q0,q1⟩:=vf 2 hc;clear hc;obtain ⟨b',o',TY,Xw,e,Ht,hbs',cj,zQ,hc'⟩:=Sl.get (Sl.ext (w':=wr) (c:=c) h az) (show j < xs.length by omega);obtain ⟨jU,abT,vC,rP⟩:=vO cj;subst jU;obtain ⟨rfl,rfl⟩:b' = b∧o' = o:=by simpa using e.symm
     clear e;obtain ⟨p0,p1⟩:=vf 2 hc';clear hc';have nG:IntKind.i64.wrap (j:Int) = j:=IntWalk.i64_in _ O;have jt:j < xs.length:=O;have cW:=(Eo.out xs[j+1] (List.getElem_mem ..)).1;have cK:=(Eo.out xs[j+1] (List.getElem_mem ..)).2;cases h1:Cm xs[j+1].key <;> cases h2:AQ xs[j+1].value <;> cases h3:Op.bytesLess xs[j].key.toList xs[j+1].key.toList
     all_goals
      have hp:=yS (ok:=zX) (less:=zi) ap;unfold zX zi at hp;rw [h1,h2,h3] at hp;simp only [Bool.false_and,Bool.and_false,Bool.and_true,Bool.and_self] at hp;change bI zX zi xs _ = _ at hp;have H1:=I h1;have H2:=I h2
      first
       | have HN:=I (gq hall.out hp)
       | have HF:=I (wU (most:=6) ap hp)
      clear h1 h2 hp;go_wp2_with fail
      refine aF _ U' U' (aj _) ?_
      repeat (first
       | (apply aG
          case hw=>rfl
          simp only [Act.put,pz])
       | (apply aH
          case hw=>rfl
          case h =>
           intro wq hq;have dP:=(aB hq).1;have lJ:=(aB hq).2;go_simp
           first
            | exact ⟨hq,rfl⟩
            | exact ⟨aQ hq _,rfl⟩
            | (first | (refine (qK xs[j+1].key _ cW).mono ?_;rw [H1.out];rintro e w2 ⟨rfl,ao⟩;exact ⟨rfl,aI hq ao⟩) | (refine (vH xs[j+1].value _ cK).mono ?_;rw [H2.out];rintro e w2 ⟨rfl,ao⟩;exact ⟨rfl,aI hq ao⟩))
            | (simp only [↓IntWalk.iteOmega];exact ⟨hq,rfl⟩)
          simp only [Act.put,pz]))
      refine aN ?_;intro wn hn;replace hn:=hn.out;go_wp2
      first
       | exact ⟨⟨j+1+1,O,N',HN.out,ah az hn⟩,by simp [intOf];omega⟩
       | (go_ret;exact ⟨by unfold sD;rw [HF.out];rfl,ah az hn⟩)
   ·have bz:k = xs.length:=O;subst bz;have HF:=I (Jy hm hall.out);go_wp2;go_ret
    exact ⟨by unfold sD;rw [HF.out];rfl,az⟩
 ·have HF:=I (Jz (ok:=zX) (less:=zi) hm);go_enter Tryz.func90,Tryz.ntmps90;go_wp2;go_ret
  exact ⟨by unfold sD;rw [HF.out];rfl,bu⟩
instance:bk UInt8 where
 size:=1
 pos:=by omega
 rd _ n cs F:=cs = [.int .u8 (n.toNat:Int)]∧F = []
 len h:=by rw [h.1];rfl
 one h:=by rw [h.1];intro u hu;simp at hu;subst hu;rfl
 lt h:=by rw [h.2];intro b hb;cases hb
 frame h _ _:=h
theorem aBV {P:Program} {t:TypeId} (ht:P.underlying t = some (.int .u8)):sH P t UInt8:=by
 intro H enc w base fp spare held cs d h;obtain ⟨n,rfl,_,hw⟩:=DataW.trod_int ht h;have h2:0≤n∧n≤255:=by
  have:=hw;simp [Lit.wf,IntKind.min,IntKind.max,IntKind.signed,IntKind.bits] at this;exact this
 refine ⟨UInt8.ofNat n.toNat,[],?_,rfl⟩;have e:((UInt8.ofNat n.toNat).toNat:Int) = n:=by
  have h3:(UInt8.ofNat n.toNat).toNat = n.toNat % 256:=by simp
  rw [h3];omega
 rw [e]
def cB (w:World) (c:Nat) (A:Option Addr) (n aM:Nat):Prop :=
 (∃(i h:Int) (t:TypeId),w.heap[c]? = some (.cells #[.slice A n aM,.int .i64 i,.int .i64 h] t (0,0))∧(0≤i∧i≤n)∧bv h) ∧
 (∀k,k < n→∃(g o:Nat) (v:Int),A = some ⟨g,o,none⟩∧g < c∧w.cell? ⟨g,o+k,none⟩ = some (.int .u8 v)∧0≤v∧v≤255)∧(n:Int)≤1048576
section
variable {w w':World} {c:Nat} {A:Option Addr} {n aM:Nat}
theorem cB.lt (h:cB w c A n aM):c < w.heap.size:=by
 obtain ⟨⟨i,x,t,h,_⟩,_⟩:=h;rcases Nat.lt_or_ge c w.heap.size with ap | oA
 ·exact ap
 ·rw [Array.getElem?_eq_none oA] at h;cases h
theorem cB.ext (h:cB w c A n aM) (hb:Below w.heap.size w w'):cB w' c A n aM:=by
 have ap:=h.lt;obtain ⟨⟨i,x,t,h1,h2⟩,h3,h4⟩:=h;refine ⟨⟨i,x,t,(hb.block c ap).trans h1,h2⟩,fun k hk=>?_,h4⟩;obtain ⟨g,o,v,e,hg,hc,hv⟩:=h3 k hk;exact ⟨g,o,v,e,hg,(World.cell?_of_block (hb.block g O)).trans hc,hv⟩
theorem cB.drew (h:cB w c A n aM):cB w.drew c A n aM:=h.ext (aA (aj _))
theorem cB.bX (h:cB w c A n aM) {b:Nat} (hb:c < b) (i:Nat) (u:Value):cB (w.setCell ⟨b,i,none⟩ u) c A n aM:=by
 obtain ⟨⟨j,x,t,h1,h2⟩,h3,h4⟩:=h;refine ⟨⟨j,x,t,(Below.heap_setCell _ _ _ _ bM).trans h1,h2⟩,fun k hk=>?_,h4⟩;exact Bm
theorem cB.MR (h:cB w c A n aM) {i:Int} (hi:0≤i∧i≤n):cB (w.setCell ⟨c,1,none⟩ (.int .i64 i)) c A n aM:=by
 obtain ⟨⟨j,x,t,h1,h2⟩,h3,h4⟩:=h;refine ⟨⟨i,x,t,by simp [World.setCell,Array.getElem?_modify,h1],hi,h2.2⟩,fun k hk=>?_,h4⟩;exact Bm
theorem cB.number (h:cB w c A n aM) {x:Int} (hx:bv x):cB (w.setCell ⟨c,2,none⟩ (.int .i64 x)) c A n aM:=by
 obtain ⟨⟨j,y,t,h1,h2⟩,h3,h4⟩:=h;refine ⟨⟨j,x,t,by simp [World.setCell,Array.getElem?_modify,h1],h2.1,hx⟩,fun k hk=>?_,h4⟩;exact Bm
theorem cB.cells (h:cB w c A n aM):∃i x:Int,(0≤i∧i≤n)∧bv x∧w.cell? ⟨c,0,none⟩ = some (.slice A n aM)∧w.cell? ⟨c,1,none⟩ = some (.int .i64 i)∧w.cell? ⟨c,2,none⟩ = some (.int .i64 x)∧∀k,w.frozen? ⟨c,k,none⟩ = false:=by
 obtain ⟨⟨i,x,t,h,h2⟩,_⟩:=h;refine ⟨i,x,h2.1,h2.2,?_,?_,?_,fun k=>by simp [World.frozen?,h]⟩
 ·rw [cell_of_row w c 0 _ t (0,0) h];rfl
 ·rw [cell_of_row w c 1 _ t (0,0) h];rfl
 ·rw [cell_of_row w c 2 _ t (0,0) h];rfl
theorem cB.byte (h:cB w c A n aM) {k:Nat} (hk:k < n):∃(g o:Nat) (v:Int),A = some ⟨g,o,none⟩∧g < c∧w.cell? ⟨g,o+k,none⟩ = some (.int .u8 v)∧0≤v∧v≤255:=h.2.1 k hk
theorem cB.small (h:cB w c A n aM):(n:Int)≤1048576:=h.2.2
end
def oG (w:World) (g:Nat) (cs:List Value):Prop:=∃t,w.heap[g]? = some (.cells cs.toArray t (0,0))
section
variable {w w':World} {g:Nat} {cs:List Value}
theorem oG.lt (h:oG w g cs):g < w.heap.size:=by
 obtain ⟨t,h⟩:=h;rcases Nat.lt_or_ge g w.heap.size with ap | oA
 ·exact ap
 ·rw [Array.getElem?_eq_none oA] at h;cases h
theorem oG.cell (h:oG w g cs) {i:Nat} {u:Value} (hi:cs[i]? = some u):w.cell? ⟨g,i,none⟩ = some u:=by
 obtain ⟨t,h⟩:=h;rw [cell_of_row w g i _ t (0,0) h];simpa using hi
theorem oG.fz (h:oG w g cs) (i:Nat):w.frozen? ⟨g,i,none⟩ = false:=by obtain ⟨t,h⟩:=h;simp [World.frozen?,h]
theorem oG.bJ (h:oG w g cs) (hk:w'.heap[g]? = w.heap[g]?):oG w' g cs:=by obtain ⟨t,h⟩:=h;exact ⟨t,hk.trans h⟩
theorem oG.put (h:oG w g cs) (i:Nat) (u:Value):oG (w.setCell ⟨g,i,none⟩ u) g (cs.set i u):=by
 obtain ⟨t,h⟩:=h;exact ⟨t,by simp [World.setCell,Array.getElem?_modify,h]⟩
theorem oG.bX (h:oG w g cs) {c:Nat} (hc:c≠g) (i:Nat) (u:Value):oG (w.setCell ⟨c,i,none⟩ u) g cs:=h.bJ (Below.heap_setCell _ _ _ _ bM)
theorem oG.new (w:World) (cs:List Value) (t:TypeId):oG (w.alloc (.cells cs.toArray t)) w.heap.size cs:=⟨t,heap_alloc_new w _⟩
theorem oG.ext (h:oG w g cs) (hb:Below w.heap.size w w'):oG w' g cs:=h.bJ (hb.block g h.lt)
theorem oG.cN {b:Nat} (h:oG w g cs) (hu:nN [b] w w') (hg:g≠b):oG w' g cs:=h.bJ (hu.block g h.lt (by simpa using hg))
end
theorem d'3 {w:World} {g:Nat} {a0 a1 a2:Value} {r:List Value} (h:oG w g (a0::a1::a2::r)):w.cell? ⟨g,0,none⟩ = some a0∧w.cell? ⟨g,1,none⟩ = some a1∧w.cell? ⟨g,2,none⟩ = some a2:=⟨h.cell (i:=0) rfl,h.cell (i:=1) rfl,h.cell (i:=2) rfl⟩
theorem cH {w:World} {g:Nat} {a0 a1 a2 a3 a4 a5:Value} {r:List Value} (h:oG w g (a0::a1::a2::a3::a4::a5::r)):w.cell? ⟨g,0,none⟩ = some a0∧w.cell? ⟨g,1,none⟩ = some a1∧w.cell? ⟨g,2,none⟩ = some a2∧w.cell? ⟨g,3,none⟩ = some a3∧w.cell? ⟨g,4,none⟩ = some a4∧w.cell? ⟨g,5,none⟩ = some a5:=⟨h.cell (i:=0) rfl,h.cell (i:=1) rfl,h.cell (i:=2) rfl,h.cell (i:=3) rfl,h.cell (i:=4) rfl,h.cell (i:=5) rfl⟩
theorem o4 {w:World} {g:Nat} {a0 a1 a2 a3 a4 a5 a6:Value} {r:List Value} (h:oG w g (a0::a1::a2::a3::a4::a5::a6::r)):w.cell? ⟨g,0,none⟩ = some a0∧w.cell? ⟨g,1,none⟩ = some a1∧w.cell? ⟨g,2,none⟩ = some a2∧w.cell? ⟨g,3,none⟩ = some a3∧w.cell? ⟨g,4,none⟩ = some a4∧w.cell? ⟨g,5,none⟩ = some a5∧w.cell? ⟨g,6,none⟩ = some a6:=⟨h.cell (i:=0) rfl,h.cell (i:=1) rfl,h.cell (i:=2) rfl,h.cell (i:=3) rfl,h.cell (i:=4) rfl,h.cell (i:=5) rfl,h.cell (i:=6) rfl⟩
theorem d'9 {w:World} {g:Nat} {a0 a1 a2 a3 a4 a5 a6 a7 a8:Value} {r:List Value} (h:oG w g (a0::a1::a2::a3::a4::a5::a6::a7::a8::r)):w.cell? ⟨g,0,none⟩ = some a0∧w.cell? ⟨g,1,none⟩ = some a1∧w.cell? ⟨g,2,none⟩ = some a2∧w.cell? ⟨g,3,none⟩ = some a3∧w.cell? ⟨g,4,none⟩ = some a4∧w.cell? ⟨g,5,none⟩ = some a5∧w.cell? ⟨g,6,none⟩ = some a6∧w.cell? ⟨g,7,none⟩ = some a7∧w.cell? ⟨g,8,none⟩ = some a8:=⟨h.cell (i:=0) rfl,h.cell (i:=1) rfl,h.cell (i:=2) rfl,h.cell (i:=3) rfl,h.cell (i:=4) rfl,h.cell (i:=5) rfl,h.cell (i:=6) rfl,h.cell (i:=7) rfl,h.cell (i:=8) rfl⟩
theorem St {w:World} {g:Nat} {a0 a1 a2:Value} {r:List Value} (h:oG w g (a0::a1::a2::r)):w.cell? ⟨g,0,none⟩ = some a0∧w.frozen? ⟨g,0,none⟩ = false∧w.cell? ⟨g,1,none⟩ = some a1∧w.frozen? ⟨g,1,none⟩ = false∧w.cell? ⟨g,2,none⟩ = some a2∧w.frozen? ⟨g,2,none⟩ = false:=⟨h.cell (i:=0) rfl,h.fz 0,h.cell (i:=1) rfl,h.fz 1,h.cell (i:=2) rfl,h.fz 2⟩
theorem Eg {w:World} {g:Nat} {a0 a1 a2 a3:Value} {r:List Value} (h:oG w g (a0::a1::a2::a3::r)):w.cell? ⟨g,0,none⟩ = some a0∧w.frozen? ⟨g,0,none⟩ = false∧w.cell? ⟨g,1,none⟩ = some a1∧w.frozen? ⟨g,1,none⟩ = false∧w.cell? ⟨g,2,none⟩ = some a2∧w.frozen? ⟨g,2,none⟩ = false∧w.cell? ⟨g,3,none⟩ = some a3∧w.frozen? ⟨g,3,none⟩ = false:=⟨h.cell (i:=0) rfl,h.fz 0,h.cell (i:=1) rfl,h.fz 1,h.cell (i:=2) rfl,h.fz 2,h.cell (i:=3) rfl,h.fz 3⟩
theorem l5 {w:World} {g:Nat} {a0 a1 a2 a3 a4 a5:Value} {r:List Value} (h:oG w g (a0::a1::a2::a3::a4::a5::r)):w.cell? ⟨g,0,none⟩ = some a0∧w.frozen? ⟨g,0,none⟩ = false∧w.cell? ⟨g,1,none⟩ = some a1∧w.frozen? ⟨g,1,none⟩ = false∧w.cell? ⟨g,2,none⟩ = some a2∧w.frozen? ⟨g,2,none⟩ = false∧w.cell? ⟨g,3,none⟩ = some a3∧w.frozen? ⟨g,3,none⟩ = false∧w.cell? ⟨g,4,none⟩ = some a4∧w.frozen? ⟨g,4,none⟩ = false∧w.cell? ⟨g,5,none⟩ = some a5∧w.frozen? ⟨g,5,none⟩ = false:=⟨h.cell (i:=0) rfl,h.fz 0,h.cell (i:=1) rfl,h.fz 1,h.cell (i:=2) rfl,h.fz 2,h.cell (i:=3) rfl,h.fz 3,h.cell (i:=4) rfl,h.fz 4,h.cell (i:=5) rfl,h.fz 5⟩
theorem ua {w:World} {g:Nat} {a0 a1 a2 a3 a4 a5 a6:Value} {r:List Value} (h:oG w g (a0::a1::a2::a3::a4::a5::a6::r)):w.cell? ⟨g,0,none⟩ = some a0∧w.frozen? ⟨g,0,none⟩ = false∧w.cell? ⟨g,1,none⟩ = some a1∧w.frozen? ⟨g,1,none⟩ = false∧w.cell? ⟨g,2,none⟩ = some a2∧w.frozen? ⟨g,2,none⟩ = false∧w.cell? ⟨g,3,none⟩ = some a3∧w.frozen? ⟨g,3,none⟩ = false∧w.cell? ⟨g,4,none⟩ = some a4∧w.frozen? ⟨g,4,none⟩ = false∧w.cell? ⟨g,5,none⟩ = some a5∧w.frozen? ⟨g,5,none⟩ = false∧w.cell? ⟨g,6,none⟩ = some a6∧w.frozen? ⟨g,6,none⟩ = false:=⟨h.cell (i:=0) rfl,h.fz 0,h.cell (i:=1) rfl,h.fz 1,h.cell (i:=2) rfl,h.fz 2,h.cell (i:=3) rfl,h.fz 3,h.cell (i:=4) rfl,h.fz 4,h.cell (i:=5) rfl,h.fz 5,h.cell (i:=6) rfl,h.fz 6⟩
theorem Mg {w:World} {g:Nat} {a0 a1 a2 a3 a4 a5 a6 a7 a8 a9 Zh Zo a12 Zp:Value} {r:List Value} (h:oG w g (a0::a1::a2::a3::a4::a5::a6::a7::a8::a9::Zh::Zo::a12::Zp::r)):w.cell? ⟨g,0,none⟩ = some a0∧w.frozen? ⟨g,0,none⟩ = false∧w.cell? ⟨g,1,none⟩ = some a1∧w.frozen? ⟨g,1,none⟩ = false∧w.cell? ⟨g,2,none⟩ = some a2∧w.frozen? ⟨g,2,none⟩ = false∧w.cell? ⟨g,3,none⟩ = some a3∧w.frozen? ⟨g,3,none⟩ = false∧w.cell? ⟨g,4,none⟩ = some a4∧w.frozen? ⟨g,4,none⟩ = false∧w.cell? ⟨g,5,none⟩ = some a5∧w.frozen? ⟨g,5,none⟩ = false∧w.cell? ⟨g,6,none⟩ = some a6∧w.frozen? ⟨g,6,none⟩ = false∧w.cell? ⟨g,7,none⟩ = some a7∧w.frozen? ⟨g,7,none⟩ = false∧w.cell? ⟨g,8,none⟩ = some a8∧w.frozen? ⟨g,8,none⟩ = false∧w.cell? ⟨g,9,none⟩ = some a9∧w.frozen? ⟨g,9,none⟩ = false∧w.cell? ⟨g,10,none⟩ = some Zh∧w.frozen? ⟨g,10,none⟩ = false∧w.cell? ⟨g,11,none⟩ = some Zo∧w.frozen? ⟨g,11,none⟩ = false∧w.cell? ⟨g,12,none⟩ = some a12∧w.frozen? ⟨g,12,none⟩ = false∧w.cell? ⟨g,13,none⟩ = some Zp∧w.frozen? ⟨g,13,none⟩ = false:=⟨h.cell (i:=0) rfl,h.fz 0,h.cell (i:=1) rfl,h.fz 1,h.cell (i:=2) rfl,h.fz 2,h.cell (i:=3) rfl,h.fz 3,h.cell (i:=4) rfl,h.fz 4,h.cell (i:=5) rfl,h.fz 5,h.cell (i:=6) rfl,h.fz 6,h.cell (i:=7) rfl,h.fz 7,h.cell (i:=8) rfl,h.fz 8,h.cell (i:=9) rfl,h.fz 9,h.cell (i:=10) rfl,h.fz 10,h.cell (i:=11) rfl,h.fz 11,h.cell (i:=12) rfl,h.fz 12,h.cell (i:=13) rfl,h.fz 13⟩
theorem apN {α:Type} (p:α→Bool):∀xs:List α,xs.any p = decide (0≤pK p xs)
 | []=>rfl
 | x :: xs=>by
   have h:=apN p xs;simp only [List.any_cons,pK,h];by_cases hp:p x = true
   ·simp [hp]
   ·exact Kh
def Ws (ts:List bH) (fs:Int) (x:iU):Bool:=(x.an == fs)&&!(ts.any fun t=>AY t x)
def BD (ts:List bH) (fs:Int) (xs:List iU):Nat:=(xs.filter (Ws ts fs)).length
theorem ahR {ts:List bH} {fs:Int} {xs:List iU} {k:Nat} (h:k < xs.length) (hp:Ws ts fs xs[k] = true):BD ts fs (xs.take (k+1)) = BD ts fs (xs.take k)+1:=by
 unfold BD;rw [List.take_succ_eq_append_getElem h,List.filter_append];simp [hp]
theorem Uj {ts:List bH} {fs:Int} {xs:List iU} {k:Nat} (h:k < xs.length) (hp:Ws ts fs xs[k] = false):BD ts fs (xs.take (k+1)) = BD ts fs (xs.take k):=by
 unfold BD;rw [List.take_succ_eq_append_getElem h,List.filter_append];simp [hp]
theorem UN (ts:List bH) (fs:Int) (xs:List iU):BD ts fs xs≤xs.length:=List.length_filter_le _ _
theorem aee (ts:List bH) (fs:Int) (xs:List iU) (k:Nat):BD ts fs (xs.take k)≤k:=Nat.le_trans (UN _ _ _) RO
theorem ajk (t:bH) (cs:List Value) (F:List Nat) (x:iU) (q:Nat) (w:World) (h:rd w t cs F) (ui:w.cell? ⟨q,0,none⟩ = some (.string x.key)) (eS:w.cell? ⟨q,1,none⟩ = some (.string x.value)) (mF:w.cell? ⟨q,2,none⟩ = some (.int .i64 x.an)) (hx:bv x.an) (mi:q < w.heap.size)
 (fI:(t.key.size:Int)≤1048576) (nz:(t.value.size:Int)≤1048576) (ur:(x.key.size:Int)≤1048576) (kB:(x.value.size:Int)≤1048576) :
 Calls Tryz.prog 229 #[.agg cs.toArray,.pointer (some ⟨q,0,none⟩)] w fun e w'=>e = .returned (.bool (AY t x))∧Below w.heap.size w w':=by
 obtain ⟨ax,hF,cc,kP,lD⟩:=jv h;subst ax;subst hF;go_enter Tryz.func229,Tryz.ntmps229;go_wp2_with fail
 refine (ahM t x _ _ [] [] _ (aJ h bu) (Q8 _ x mK mK hx) fI nz ur kB).mono ?_;rintro e w2 ⟨rfl,ao⟩;go_wp2;go_ret
 exact ⟨rfl,bu⟩
theorem anA (ts:List bH) (A:Option Addr) (n c:Nat) (F:List Nat) (x:iU) (q:Nat) (w:World) (h:Sl w ts A c F) (hn:n = ts.length) (ui:w.cell? ⟨q,0,none⟩ = some (.string x.key)) (eS:w.cell? ⟨q,1,none⟩ = some (.string x.value)) (mF:w.cell? ⟨q,2,none⟩ = some (.int .i64 x.an)) (hx:bv x.an) (mi:q < w.heap.size) (hl:(ts.length:Int)≤1048576)
 (cS:(∀t∈ts,(t.key.size:Int)≤1048576∧(t.value.size:Int)≤1048576)) (ur:(x.key.size:Int)≤1048576) (kB:(x.value.size:Int)≤1048576) :
 Calls Tryz.prog 238 #[.slice A n c,.func (.func 229) #[] #[.pointer (some ⟨q,0,none⟩)]] w fun e w'=>e = .returned (.int .i64 (pK (fun t=>AY t x) ts))∧Below w.heap.size w w':=by
 subst hn;have Eo:=I cS;clear cS;go_enter Tryz.func238,Tryz.ntmps238;go_wp2;go_loopw [5,8] (fun _ i wr=>∃k:Nat,k≤ts.length∧i = .int .i64 k∧Hid (∀t∈ts.take k,AY t x = false)∧Below w.heap.size w wr) (fun _ i _=>ts.length - (intOf i).toNat)
 case atStart=>exact ⟨0,Nat.zero_le _,rfl,by show ∀_,_;simp,aj _⟩
 case round =>
  obtain ⟨k,hk,rfl,Hn,az⟩:=hrel;by_cases ap:k < ts.length
  ·obtain ⟨b,o,ck,Fk,rfl,o9,hbs,hr,br,hc⟩:=(h.ext az).get ap;obtain ⟨ax,su,cc,kP,lD⟩:=jv hr;subst ax;obtain ⟨q0,q1,q2,q3⟩:=tT 4 hc;clear hc;have cZ:=az.cell (p:=⟨q,0,none⟩) mi;have dc:=az.cell (p:=⟨q,1,none⟩) mi;have dx:=az.cell (p:=⟨q,2,none⟩) mi;rw [ui] at cZ;rw [eS] at dc;rw [mF] at dx;have xY:q < wr.heap.size:=Nat.lt_of_lt_of_le mi az.size;obtain ⟨cW,cK⟩:=Eo.out ts[k] (List.getElem_mem ..);cases hp:AY ts[k] x with
   | false =>
     have HP:=I hp;clear hp;go_wp2_with (go_at_call 229;refine (ajk ts[k] _ _ x q _ hr cZ dc dx hx xY cW cK ur kB).mono ?_;rw [HP.out];rintro e w2 ⟨rfl,ao⟩)
     exact ⟨⟨k+1,O,N',yQ (p:=fun t=>AY t x) ap Hn.out HP.out,ah az ao⟩,by simp [intOf];omega⟩
   | true =>
     have HP:=I hp;clear hp;have HI:=I (Fj (p:=fun t=>AY t x) ap Hn.out HP.out);go_wp2_with (go_at_call 229;refine (ajk ts[k] _ _ x q _ hr cZ dc dx hx xY cW cK ur kB).mono ?_;rw [HP.out];rintro e w2 ⟨rfl,ao⟩)
     go_ret
     exact ⟨by rw [HI.out];rfl,ah az ao⟩
  ·have bz:k = ts.length:=O;subst bz;have hn:=Hn.out;rw [List.take_length] at hn;have HI:=I (F5 (p:=fun t=>AY t x) hn);clear hn;go_wp2;go_ret
   exact ⟨by rw [HI.out];rfl,az⟩
theorem ahS (ts:List bH) (A:Option Addr) (n c:Nat) (F:List Nat) (x:iU) (q:Nat) (w:World) (h:Sl w ts A c F) (hn:n = ts.length) (ui:w.cell? ⟨q,0,none⟩ = some (.string x.key)) (eS:w.cell? ⟨q,1,none⟩ = some (.string x.value)) (mF:w.cell? ⟨q,2,none⟩ = some (.int .i64 x.an)) (hx:bv x.an) (mi:q < w.heap.size) (hl:(ts.length:Int)≤1048576)
 (cS:(∀t∈ts,(t.key.size:Int)≤1048576∧(t.value.size:Int)≤1048576)) (ur:(x.key.size:Int)≤1048576) (kB:(x.value.size:Int)≤1048576) :
 Calls Tryz.prog 228 #[.slice A n c,.func (.func 229) #[] #[.pointer (some ⟨q,0,none⟩)]] w fun e w'=>e = .returned (.bool (ts.any fun t=>AY t x))∧Below w.heap.size w w':=by
 subst hn;have pe:=apN (fun t=>AY t x) ts;have Eo:=I cS;clear cS;have M7:=anA ts A _ c F x q w h rfl ui eS mF hx mi hl Eo.out ur kB;generalize pK (fun t=>AY t x) ts = z at pe M7;rw [pe];clear pe Eo;go_enter Tryz.func228,Tryz.ntmps228;go_wp2_with fail
 refine M7.mono ?_;rintro e w2 ⟨rfl,ao⟩;go_wp2;go_ret
 exact ⟨rfl,ao⟩
theorem UO (ts:List bH) (xs:List iU) (fs:Int) (A B:Option Addr) (n m c d:Nat) (F G:List Nat) (w:World) (h:Sl w ts A c F) (h':Sl w xs B d G) (hn:n = ts.length) (hm:m = xs.length) (hl:(ts.length:Int)≤1048576) (pt:(xs.length:Int)≤1048576)
 (cS:(∀t∈ts,(t.key.size:Int)≤1048576∧(t.value.size:Int)≤1048576)) (sT:(∀x∈xs,(x.key.size:Int)≤1048576∧(x.value.size:Int)≤1048576)) :
 Calls Tryz.prog 209 #[.slice A n c,.slice B m d,.int .i64 fs] w fun e w'=>e = .returned (.int .i64 (BD ts fs xs))∧Below w.heap.size w w':=by
 subst hm;subst hn;have Eo:=I cS;have Uk:=I sT;clear cS sT;go_enter Tryz.func209,Tryz.ntmps209;go_wp2_with fail
 go_loopw [7,12] (fun x i wr=>∃k:Nat,k≤xs.length∧i = .int .i64 k∧x = .int .i64 (BD ts fs (xs.take k))∧Below w.heap.size w wr) (fun _ i _=>xs.length - (intOf i).toNat)
 case atStart=>exact ⟨0,Nat.zero_le _,rfl,rfl,bu⟩
 case round =>
  obtain ⟨k,hk,rfl,rfl,az⟩:=hrel;by_cases ap:k < xs.length
  ·obtain ⟨b,o,ck,Fk,rfl,o9,hbs,hr,br,hc⟩:=(Sl.ext (w':=wr) (A:=B) (c:=d) h' az).get ap;obtain ⟨ax,su,cc,kP,lD⟩:=oK hr;subst ax;obtain ⟨q0,q1,q2⟩:=jN 3 hc;clear hc;obtain ⟨cW,cK⟩:=Uk.out xs[k] (List.getElem_mem ..);have hnt:=aee ts fs xs k;cases hef:(xs[k].an == fs) with
   | false =>have hp:Ws ts fs xs[k] = false:=(by unfold Ws;rw [hef];rfl);have HN:=I (Uj ap hp);clear hp;go_wp2;exact ⟨⟨k+1,O,N',by rw [HN.out] <;> first | rfl | go_num,ak az _⟩,by simp [intOf];omega⟩
   | true =>
     cases han:(ts.any fun t=>AY t xs[k])
     all_goals
      have hp:Ws ts fs xs[k] = _:=(by unfold Ws;rw [hef,han]);have HA:=I han;clear han;first | have HN:=I (ahR ap hp) | have HN:=I (Uj ap hp)
      clear hp;go_wp2_with (go_at_call 228;refine (ahS ts A _ c F xs[k] wr.heap.size _ (Sl.ext (Sl.ext (w':=wr) h az) bu) rfl Py Py Py lD S' hl Eo.out cW cK).mono ?_;rw [HA.out];rintro e w2 ⟨rfl,ao⟩)
      exact ⟨⟨k+1,O,N',by rw [HN.out] <;> first | rfl | go_num,ah (ak az _) ao⟩,by simp [intOf];omega⟩
  ·exact K5
theorem UQ (ts:List bH) (xs:List iU) (fs:Int) (A B:Option Addr) (n m c d:Nat) (F G:List Nat) (w:World) (h:Sl w ts A c F) (h':Sl w xs B d G) (hn:n = ts.length) (hm:m = xs.length) (hl:(ts.length:Int)≤1048576) (pt:(xs.length:Int)≤1048576)
 (cS:(∀t∈ts,(t.key.size:Int)≤1048576∧(t.value.size:Int)≤1048576)) (sT:(∀x∈xs,(x.key.size:Int)≤1048576∧(x.value.size:Int)≤1048576)) :
 Calls Tryz.prog 180 #[.slice A n c,.slice B m d,.int .i64 fs] w fun e w'=>e = .returned (.int .i64 (BD ts fs xs))∧Below w.heap.size w w':=by
 subst hm;subst hn;have Eo:=I cS;have Uk:=I sT;clear cS sT;go_enter Tryz.func180,Tryz.ntmps180;go_wp2_with fail
 go_loopw [7,8] (fun x i wr=>∃k:Nat,k≤xs.length∧i = .int .i64 k∧x = .int .i64 (BD ts fs (xs.take k))∧Below w.heap.size w wr) (fun _ i _=>xs.length - (intOf i).toNat)
 case atStart=>exact ⟨0,Nat.zero_le _,rfl,rfl,bu⟩
 case round =>
  obtain ⟨k,hk,rfl,rfl,az⟩:=hrel;by_cases ap:k < xs.length
  ·obtain ⟨b,o,ck,Fk,rfl,o9,hbs,hr,br,hc⟩:=(Sl.ext (w':=wr) (A:=B) (c:=d) h' az).get ap;obtain ⟨ax,su,cc,kP,lD⟩:=oK hr;subst ax;obtain ⟨q0,q1,q2⟩:=jN 3 hc;clear hc;obtain ⟨cW,cK⟩:=Uk.out xs[k] (List.getElem_mem ..);have hnt:=aee ts fs xs k;generalize hz:(BD ts fs (xs.take k):Int) = z at *;have Qn:((xs[k].an != fs) || (ts.take 0).any (fun t=>AY t xs[k])) = (xs[k].an != fs):=S';obtain ⟨wo,hwo⟩:∃wo,wo = wr:=⟨_,rfl⟩;subst hwo;go_wp2_with fail
   go_loopw [9,10] (fun v u wi=>∃j:Nat,j≤ts.length∧u = .int .i64 j∧v = .bool ((xs[k].an != fs) || (ts.take j).any (fun t=>AY t xs[k]))∧Below w.heap.size w wi∧Below wo.heap.size wo wi) (fun _ u _=>ts.length - (intOf u).toNat)
   case atStart=>exact ⟨0,Nat.zero_le _,rfl,by rw [Qn],az,aj _⟩
   case round =>
    obtain ⟨j,hj,rfl,rfl,hbi,lI⟩:=hrel;replace q0:=r' lI q0 hbs;replace q1:=r' lI q1 hbs;replace q2:=r' lI q2 hbs;replace hbs:=Nat.lt_of_lt_of_le hbs lI.size;by_cases jt:j < ts.length
    ·obtain ⟨b2,o2,ck2,Fk2,rfl,ayO,uO,dx,ld,cb⟩:=(Sl.ext (w':=wr) (A:=A) (c:=c) h hbi).get jt;obtain ⟨ax,abT,vC,rP,uY⟩:=jv dx;subst ax;obtain ⟨p0,p1,p2,p3⟩:=tT 4 cb;clear cb;obtain ⟨ht1,ht2⟩:=Eo.out ts[j] (List.getElem_mem ..);have il:(ts.take (j+1)).any (fun t=>AY t xs[k]) = ((ts.take j).any (fun t=>AY t xs[k]) || AY ts[j] xs[k]):=(by rw [List.take_succ_eq_append_getElem jt,List.any_append];simp);generalize hv:((xs[k].an != fs) || (ts.take j).any (fun t=>AY t xs[k])) = v at *;have ee:((xs[k].an != fs) || (ts.take (j+1)).any (fun t=>AY t xs[k])) = (v || AY ts[j] xs[k]):=(by rw [il,← Bool.or_assoc,hv]);have Jf:=I ee;clear ee il hv Qn;cases v
     all_goals
      go_wp2_with fail
      refine aF _ U' U' (aj _) ?_
      repeat (first
       | (apply aG
          case hw=>rfl
          simp only [Act.put,pz])
       | (apply aH
          case hw=>rfl
          case h =>
           intro wq hq;have dP:=(aB hq).1;have lJ:=(aB hq).2;go_simp
           first
            | exact ⟨hq,rfl⟩
            | exact ⟨aQ hq _,rfl⟩
            | (refine (ahN ts[j] xs[k] _ _ _ [] _ (aJ dx XF) (Q8 _ xs[k] cc kP lD) ht1 ht2 cW cK).mono ?_;rintro e w2 ⟨rfl,ao⟩;exact ⟨rfl,aI hq ao⟩)
            | (simp only [↓IntWalk.iteOmega];exact ⟨hq,rfl⟩)
          simp only [Act.put,pz]))
      refine aN ?_;intro wn hn;replace hn:=hn.out;go_wp2;exact ⟨⟨j+1,O,N',by rw [Jf.out];rfl,ah hbi hn,ah lI hn⟩,by simp [intOf];omega⟩
    ·have Sf:j = ts.length:=O;subst Sf;rw [List.take_length];cases hef:(xs[k].an == fs) <;> cases han:(ts.any fun t=>AY t xs[k])
     all_goals
      have hp:Ws ts fs xs[k] = _:=(by unfold Ws;rw [hef,han]);simp only [Bool.false_and,Bool.true_and,Bool.not_true,Bool.not_false] at hp;first | have HN:=I (ahR ap hp) | have HN:=I (Uj ap hp)
      have cA:(xs[k].an != fs) = _:=(by unfold bne;rw [hef]);rw [cA];clear hp han;go_wp2;exact ⟨⟨k+1,O,N',by rw [HN.out,← hz] <;> first | rfl | go_num,hbi⟩,by simp [intOf];omega⟩
  ·exact K5
end Go.Proofs.YtjahcnjmjahbaaaGreat
