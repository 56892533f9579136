/- Rows of right elements, each less than the next. No condition. -/
import Derived.Test.YtajbbmembionpaaGreatNames
import Derived.Lib.SmallJoins
namespace Go.Proofs.YtajbbmembionpaaGreat
open Go.ChangeShapes Go.WideShapes Go.ChangeAt Go.RowKit
set_option linter.unusedVariables false
set_option linter.unusedSimpArgs false
set_option maxHeartbeats 2000000
set_option maxRecDepth 100000
theorem aJ {α:Type} [bb α] {w w':World} {x:α} {cs:List Value} {F:List Nat} (h:rd w x cs F) (U:Below w.heap.size w w'):rd w' x cs F :=
 bb.frame h (fun b eo=>U.block b (bb.lt h b eo)) U.size
theorem YG {p:Nat→Bool} {n:Nat} (h:∀j,j < n→p j = true):(List.range n).all p = true:=by
 rw [List.all_eq_true];intro x hx;exact h x (List.mem_range.1 hx)
theorem YF {p:Nat→Bool} {n k:Nat} (hk:k < n) (h:p k = false):(List.range n).all p = false:=by
 rw [List.all_eq_false];exact ⟨k,List.mem_range.2 hk,by simp [h]⟩
theorem gq {p:Nat→Bool} {k:Nat} (h:∀j,j < k→p j = true) (hp:p k = true):∀j,j < k+1→p j = true:=fun j hj=>by
 rcases Nat.lt_or_ge j k with Z | Z
 ·exact h j Z
 ·obtain rfl:j = k:=by omega
  exact hp
def bO {α:Type} (ok:α→Bool) (less:α→α→Bool) (xs:List α) (k:Nat):Bool :=
 match xs[k]? with
 | none=>false
 | some l=>ok l&&(match k with | 0=>true | j+1=>match xs[j]? with | none=>false | some p=>less p l)
theorem cF {α:Type} {ok:α→Bool} {less:α→α→Bool} {xs:List α} (h:0 < xs.length):bO ok less xs 0 = ok xs[0]:=by
 unfold bO;rw [List.getElem?_eq_getElem h];simp
theorem yS {α:Type} {ok:α→Bool} {less:α→α→Bool} {xs:List α} {j:Nat} (h:j+1 < xs.length):bO ok less xs (j+1) = (ok xs[j+1]&&less xs[j] xs[j+1]):=by
 simp only [bO,List.getElem?_eq_getElem h,List.getElem?_eq_getElem (show j < xs.length by omega)]
def l0 {α:Type} (ok:α→Bool) (less:α→α→Bool) (most:Int) (xs:List α):Bool:=decide ((xs.length:Int)≤most)&&(List.range xs.length).all (bO ok less xs)
theorem wU {α:Type} {ok:α→Bool} {less:α→α→Bool} {most:Int} {xs:List α} {k:Nat} (hk:k < xs.length) (h:bO ok less xs k = false):l0 ok less most xs = false:=by unfold l0;rw [YF hk h];simp
theorem Jz {α:Type} {ok:α→Bool} {less:α→α→Bool} {most:Int} {xs:List α} (h:¬(xs.length:Int)≤most):l0 ok less most xs = false:=by unfold l0;simp [h]
theorem Jy {α:Type} {ok:α→Bool} {less:α→α→Bool} {most:Int} {xs:List α} (hl:(xs.length:Int)≤most) (h:∀j,j < xs.length→bO ok less xs j = true):l0 ok less most xs = true:=by unfold l0;rw [YG h];simp [hl]
def bl (a b:ByteArray):Bool:=Op.bytesLess a.toList b.toList
def uh (x:aL):Bool:=Cm x.key&&(decide (1≤x.op)&&decide (x.op≤4))&&(if 2 < x.op then decide (x.values.length = 0) else decide (1≤x.values.length)&&l0 AQ bl 4 x.values)
theorem SJ {x:aL} (h:Cm x.key = false):uh x = false:=by unfold uh;rw [h];simp
theorem SK {x:aL} (h:¬(1≤x.op∧x.op≤4)):uh x = false:=by
 have:(decide (1≤x.op)&&decide (x.op≤4)) = false:=by rw [← Bool.not_eq_true,Bool.and_eq_true,decide_eq_true_eq,decide_eq_true_eq];exact h
 unfold uh;rw [this];simp
theorem SL {x:aL} (hk:Cm x.key = true) (h:1≤x.op∧x.op≤4) (h2:2 < x.op):uh x = decide (x.values.length = 0):=by
 unfold uh;rw [hk,if_pos h2];simp [h.1,h.2]
theorem SM {x:aL} (hk:Cm x.key = true) (h:1≤x.op∧x.op≤4) (h2:¬2 < x.op):uh x = (decide (1≤x.values.length)&&l0 AQ bl 4 x.values):=by
 unfold uh;rw [hk,if_neg h2];simp [h.1,h.2]
theorem ahM (x:bH) (y:iU) (cs ds:List Value) (F G:List Nat) (w:World) (h:rd w x cs F) (h':rd w y ds G) (fh:(x.key.size:Int)≤1048576) (mL:(x.value.size:Int)≤1048576) (sg:(y.key.size:Int)≤1048576) (j':(y.value.size:Int)≤1048576) :
 Calls Tryz.prog 89 #[.agg cs.toArray,.agg ds.toArray] w fun e w'=>e = .returned (.bool (AY x y))∧Below w.heap.size w w':=by
 obtain ⟨aD,hF1,xO,xk,zT⟩:=jv h;obtain ⟨jU,lX,vC,rP,uY⟩:=oK h';subst aD jU;subst hF1 lX;go_enter Tryz.func89,Tryz.ntmps89
 go_wp2_with (first
  | (go_at_call 136;refine (Na x _ [] _ (aJ h bL) fh mL).mono ?_;rintro e w2 ⟨rfl,aq⟩;obtain ⟨cj,cN⟩:=ay aq;have cC:w.heap.size+1 < w2.heap.size:=(sq aq.size);have lI:w.heap.size < w2.heap.size:=J)
  | (go_at_call 137;refine (V9 y _ [] _ (aJ h' bL) sg j').mono ?_;rintro e w3 ⟨rfl,bd⟩;obtain ⟨dx,hf3⟩:=ay bd;have dm:w.heap.size+1 < w3.heap.size:=(sq bd.size);have vR:w.heap.size < w3.heap.size:=J))
 all_goals first
  | (go_ret;refine ⟨?_,bL⟩;refine congrArg (fun b=>Ending.returned (Value.bool b)) ?_;show (_:Bool) = _;(try clear cj cN aq);(try clear dx hf3 bd);unfold AY;(try simp only [Kz]);first | (simp [*];done) | (simp_all;done) | (simp_all;omega) | (simp_all;exact Bool.or_comm _ _))
  | skip
theorem ahN (x:bH) (y:iU) (cs ds:List Value) (F G:List Nat) (w:World) (h:rd w x cs F) (h':rd w y ds G) (fh:(x.key.size:Int)≤1048576) (mL:(x.value.size:Int)≤1048576) (sg:(y.key.size:Int)≤1048576) (j':(y.value.size:Int)≤1048576) :
 Calls Tryz.prog 154 #[.agg cs.toArray,.agg ds.toArray] w fun e w'=>e = .returned (.bool (AY x y))∧Below w.heap.size w w':=by
 obtain ⟨aD,hF1,xO,xk,zT⟩:=jv h;obtain ⟨jU,lX,vC,rP,uY⟩:=oK h';subst aD jU;subst hF1 lX;go_enter Tryz.func154,Tryz.ntmps154
 go_wp2_with (first
  | (go_at_call 126;refine (Nb x _ [] _ (aJ h bL) fh mL).mono ?_;rintro e w2 ⟨rfl,aq⟩;obtain ⟨cj,cN⟩:=ay aq;have cC:w.heap.size+1 < w2.heap.size:=(sq aq.size);have lI:w.heap.size < w2.heap.size:=J)
  | (go_at_call 138;refine (Wh y _ [] _ (aJ h' bL) sg j').mono ?_;rintro e w3 ⟨rfl,bd⟩;obtain ⟨dx,hf3⟩:=ay bd;have dm:w.heap.size+1 < w3.heap.size:=(sq bd.size);have vR:w.heap.size < w3.heap.size:=J))
 all_goals first
  | (go_ret;refine ⟨?_,bL⟩;refine congrArg (fun b=>Ending.returned (Value.bool b)) ?_;show (_:Bool) = _;(try clear cj cN aq);(try clear dx hf3 bd);unfold AY;(try simp only [Kz]);first | (simp [*];done) | (simp_all;done) | (simp_all;omega) | (simp_all;exact Bool.or_comm _ _))
  | skip
def zX (l:ao):Bool:=Cm l.key&&AQ l.value
def zi (a b:ao):Bool:=Op.bytesLess a.key.toList b.key.toList
def sD (xs:List ao):Bool:=l0 zX zi 6 xs
theorem Jw (xs:List ao) (A:Option Addr) (n c:Nat) (F:List Nat) (w:World) (h:Sl w xs A c F) (X:n = xs.length) (hl:(xs.length:Int)≤1048576) (cW:∀l∈xs,(l.key.size:Int)≤1048576∧(l.value.size:Int)≤1048576) :
 Calls Tryz.prog 75 #[.slice A n c] w fun e w'=>e = .returned (.bool (sD xs))∧Below w.heap.size w w':=by
 subst X;have Eo:=I cW;clear cW;by_cases hm:(xs.length:Int)≤6
 ·go_enter Tryz.func75,Tryz.ntmps75;go_wp2_with fail
  go_loopw [3] (fun i wr=>∃k:Nat,k≤xs.length∧i = .int .i64 k∧Hid (∀j,j < k→bO zX zi xs j = true)∧Below w.heap.size w wr) (fun i _=>xs.length - (intOf i).toNat)
  case atStart=>exact ⟨0,Nat.zero_le _,rfl,(fun j hj=>by omega),bL⟩
  case round =>
   obtain ⟨k,hk,rfl,hall,aK⟩:=hrel;by_cases av:k < xs.length
   ·obtain rfl | ⟨j,rfl⟩:k = 0∨∃j,k = j+1:=by cases k with | zero=>exact .inl rfl | succ j=>exact .inr ⟨j,rfl⟩
    ·obtain ⟨b,o,ck,Fk,rfl,o9,hbs,hr,bA,hc⟩:=(Sl.ext (w':=wr) (A:=A) (c:=c) h aK).get av;obtain ⟨aD,su,ce,kP⟩:=vO hr;subst aD;obtain ⟨q0,q1⟩:=Kr 2 hc;clear hc;simp only [Nat.zero_mul,Nat.add_zero] at q0 q1;have dq:=(Eo.out xs[0] (List.getElem_mem ..)).1;have cR:=(Eo.out xs[0] (List.getElem_mem ..)).2;cases Z:Cm xs[0].key <;> cases h2:AQ xs[0].value
     all_goals
      have hp:=cF (ok:=zX) (less:=zi) av;unfold zX at hp;rw [Z,h2] at hp;simp only [Bool.false_and,Bool.and_false,Bool.and_true,Bool.and_self] at hp;change bO zX zi xs _ = _ at hp;have H1:=I Z;have H2:=I h2
      first
       | have HN:=I (gq hall.out hp)
       | have HF:=I (wU (most:=6) av hp)
      clear Z h2 hp;go_wp2_with fail
      refine aF _ U' U' (aj _) ?_
      repeat (first
       | (apply aG
          case hw=>rfl
          simp only [Act.put,pz])
       | (apply aH
          case hw=>rfl
          case h =>
           intro wq hq;have dE:=(aB hq).1;have lJ:=(aB hq).2;go_simp
           first
            | exact ⟨hq,rfl⟩
            | exact ⟨aQ hq _,rfl⟩
            | (first | (refine (qK xs[0].key _ dq).mono ?_;rw [H1.out];rintro e w2 ⟨rfl,aq⟩;exact ⟨rfl,aI hq aq⟩) | (refine (vH xs[0].value _ cR).mono ?_;rw [H2.out];rintro e w2 ⟨rfl,aq⟩;exact ⟨rfl,aI hq aq⟩))
            | (simp only [↓IntWalk.iteOmega];exact ⟨hq,rfl⟩)
          simp only [Act.put,pz]))
      refine aN ?_;intro wn X;replace X:=X.out;go_wp2
      first
       | exact ⟨⟨0+1,J,N',HN.out,ah aK X⟩,by simp [intOf];omega⟩
       | (go_ret;exact ⟨by unfold sD;rw [HF.out];rfl,ah aK X⟩)
    ·obtain ⟨b,o,ck,Fk,rfl,o9,hbs,hr,bA,hc⟩:=(Sl.ext (w':=wr) (A:=A) (c:=c) h aK).get av;obtain ⟨aD,su,ce,kP⟩:=vO hr;subst aD;obtain ⟨q0,q1⟩:=Kr 2 hc;clear hc;obtain ⟨b',o',TY,Xw,e,Ht,hbs',dd,zQ,hc'⟩:=Sl.get (Sl.ext (w':=wr) (c:=c) h aK) (show j < xs.length by omega);obtain ⟨jU,abT,vC,rP⟩:=vO dd;subst jU;obtain ⟨rfl,rfl⟩:b' = b∧o' = o:=by simpa using e.symm
     clear e;obtain ⟨p0,p1⟩:=Kr 2 hc';clear hc';have yk:IntKind.i64.wrap (j:Int) = j:=IntWalk.i64_in _ J;have mr:j < xs.length:=J;have dq:=(Eo.out xs[j+1] (List.getElem_mem ..)).1;have cR:=(Eo.out xs[j+1] (List.getElem_mem ..)).2;cases Z:Cm xs[j+1].key <;> cases h2:AQ xs[j+1].value <;> cases h3:Op.bytesLess xs[j].key.toList xs[j+1].key.toList
     all_goals
      have hp:=yS (ok:=zX) (less:=zi) av;unfold zX zi at hp;rw [Z,h2,h3] at hp;simp only [Bool.false_and,Bool.and_false,Bool.and_true,Bool.and_self] at hp;change bO zX zi xs _ = _ at hp;have H1:=I Z;have H2:=I h2
      first
       | have HN:=I (gq hall.out hp)
       | have HF:=I (wU (most:=6) av hp)
      clear Z h2 hp;go_wp2_with fail
      refine aF _ U' U' (aj _) ?_
      repeat (first
       | (apply aG
          case hw=>rfl
          simp only [Act.put,pz])
       | (apply aH
          case hw=>rfl
          case h =>
           intro wq hq;have dE:=(aB hq).1;have lJ:=(aB hq).2;go_simp
           first
            | exact ⟨hq,rfl⟩
            | exact ⟨aQ hq _,rfl⟩
            | (first | (refine (qK xs[j+1].key _ dq).mono ?_;rw [H1.out];rintro e w2 ⟨rfl,aq⟩;exact ⟨rfl,aI hq aq⟩) | (refine (vH xs[j+1].value _ cR).mono ?_;rw [H2.out];rintro e w2 ⟨rfl,aq⟩;exact ⟨rfl,aI hq aq⟩))
            | (simp only [↓IntWalk.iteOmega];exact ⟨hq,rfl⟩)
          simp only [Act.put,pz]))
      refine aN ?_;intro wn X;replace X:=X.out;go_wp2
      first
       | exact ⟨⟨j+1+1,J,N',HN.out,ah aK X⟩,by simp [intOf];omega⟩
       | (go_ret;exact ⟨by unfold sD;rw [HF.out];rfl,ah aK X⟩)
   ·have bI:k = xs.length:=J;subst bI;have HF:=I (Jy hm hall.out);go_wp2;go_ret
    exact ⟨by unfold sD;rw [HF.out];rfl,aK⟩
 ·have HF:=I (Jz (ok:=zX) (less:=zi) hm);go_enter Tryz.func75,Tryz.ntmps75;go_wp2;go_ret
  exact ⟨by unfold sD;rw [HF.out];rfl,bL⟩
def zL (p s f:Int):Bool:=(decide (0≤p)&&decide (p≤10))&&(decide (0≤s)&&decide (s≤10))&&(decide (0≤f)&&decide (f≤10))
theorem kH (n a b:Int) (w:World):Calls Tryz.prog 48 #[.int .i64 n,.int .i64 a,.int .i64 b] w fun e w'=>e = .returned (.bool (decide (a≤n)&&decide (n≤b)))∧w = w':=by
 go_enter Tryz.func48,Tryz.ntmps48;go_wp2;all_goals go_ret
 all_goals simp [*]
 all_goals omega
theorem pW (p s f:Int) (w:World):Calls Tryz.prog 49 #[.agg #[.int .i64 p,.int .i64 s,.int .i64 f]] w fun e w'=>e = .returned (.bool (zL p s f))∧Below w.heap.size w w':=by
 go_enter Tryz.func49,Tryz.ntmps49;go_wp2_with (go_at_call 48;refine (kH _ _ _ _).mono ?_;rintro e w' ⟨rfl,rfl⟩)
 all_goals go_ret
 all_goals exact ⟨by simp [zL, *],(Below.refl _ _).alloc (Nat.le_refl _) _⟩
def Bh (k:Nat):ByteArray:=⟨#[(k % 10+48).toUInt8]⟩
theorem Sd (k:Nat):(Bh k).size = 1:=rfl
def rS (k:Nat) (out:ByteArray):ByteArray:=if h:k = 0 then out else rS (k / 10) (Bh k++out)
termination_by k
decreasing_by omega
theorem M9 (out:ByteArray):rS 0 out = out:=by rw [rS,dif_pos rfl]
theorem Se {k:Nat} (h:0 < k) (out:ByteArray):rS k out = rS (k / 10) (Bh k++out):=by rw [rS,dif_neg J]
theorem Sf:∀(n k:Nat) (out:ByteArray),k≤n→(rS k out).size≤out.size+k
 | 0,k,out,h=>by obtain rfl:k = 0:=by omega
                 rw [M9];omega
 | n+1,k,out,h=>by
   by_cases hk:k = 0
   ·subst hk;rw [M9];omega
   ·rw [Se J];have:=Sf n (k / 10) (Bh k++out) J;rw [ByteArray.size_append,Sd] at this;omega
def d9 (k:Nat):ByteArray:=if k = 0 then ⟨#[48]⟩ else rS k ⟨#[]⟩
theorem oR (k:Nat):(d9 k).size≤k+1:=by
 unfold d9;split
 ·show 1≤k+1;omega
 ·have:=Sf k k ⟨#[]⟩ (Nat.le_refl _);have e:(⟨#[]⟩:ByteArray).size = 0:=rfl;omega
structure zb where
 kind:Int
 name:ByteArray
 se:cB
 weights:rZ
instance:bb zb:=bb.mq fun x=>(x.kind,x.name,x.se,x.weights)
def kL {α:Type} (f:α→Nat) (xs:List α):Nat:=xs.length+(xs.map f).sum
abbrev Bi (xs:List ByteArray):Nat:=kL ByteArray.size xs
theorem Bq {α:Type} {f:α→Nat} {xs:List α} {x:α} (h:x∈xs):f x≤kL f xs:=by
 unfold kL;induction xs with
 | nil=>cases h
 | cons y ys ih =>
   rcases List.mem_cons.1 h with rfl | h
   ·simp;omega
   ·have:=ih h;simp at this ⊢;omega
theorem rM {α:Type} {f:α→Nat} {xs:List α} {k:Nat} (h:k < xs.length):f xs[k]≤kL f xs:=Bq (List.getElem_mem h)
theorem gJ {α:Type} (f:α→Nat) (xs:List α):xs.length≤kL f xs:=by unfold kL;omega
def ao.wt (x:ao):Nat:=x.key.size+x.value.size
def aL.wt (x:aL):Nat:=x.key.size+Bi x.values
def iU.wt (x:iU):Nat:=x.key.size+x.value.size
def bH.wt (x:bH):Nat:=x.key.size+x.value.size
def nI.wt (x:nI):Nat:=x.name.size+kL ao.wt x.labels+kL aL.wt x.ai+kL bH.wt x.ae
def aR.wt (x:aR):Nat:=x.name.size+kL ao.wt x.labels+kL iU.wt x.aT
def ag.wt (x:ag):Nat:=x.aS.wt+x.on.size
def aU.wt (x:aU):Nat:=kL aR.wt x.V+kL ag.wt x.O
def cB.wt (x:cB):Nat:=x.aS.wt+x.bo.wt
def tV.wt (x:tV):Nat:=x.path.size
def qB (P:Program) (t:TypeId) (α:Type) [bb α]:Prop:=∀(H:Type) (enc:TypeId × Value→H) (w:World) (base fi:Nat) (spare:Nat→Bool) (held:Bool) (cs:List Value) (d:DataW H × List MemPlace),
 DataW.trod enc P w base spare held fi t cs = some d→∃(x:α) (F:List Nat),rd w x cs F
theorem yH {P:Program} {t e:TypeId} {α:Type} [bb α] (ht:P.underlying t = some (.slice e)) (hC:P.cellsOf e = bb.size α) (h:qB P e α):qB P t (List α):=by
 intro H enc w base fi spare held cs d hd;rcases Deep.open_slice ht hd with ⟨rfl,_⟩ | ⟨a,len,ar,m,n,D,Pl,rfl,U,hl,hm,hmm,hx,hi⟩
 ·exact ⟨[],[],Sl.nil w none 0 (Nat.zero_le _)⟩
 ·rcases Nat.eq_zero_or_pos len with rfl | hpos
  ·exact ⟨[],[],Sl.nil w (some a) ar hm⟩
  ·have hlm:len≤m:=(by rw [hmm];split <;> omega);have TK:=bb.pos (α:=α);have ju:a.spot = none∧a.block < w.heap.size:=by
    obtain ⟨Oh,hc,_⟩:=hi 0 J;obtain ⟨_,kW,dt⟩:=World.cells?_some hc;have h0:=dt (i:=0) J;simp only [Nat.zero_mul] at h0;have e0:(a.add 0).add 0 = a:=(by simp [Addr.add]);rw [e0] at h0;rw [List.getElem?_eq_getElem J] at h0;refine ⟨?_,World.block_lt_of_cell? w a h0⟩;unfold World.cell? at h0;split at h0
    ·split at h0
     ·cases h0
     ·rename_i hs;simpa using hs
    ·cases h0
   obtain ⟨b,o,sp⟩:=a;obtain ⟨rfl,hblt⟩:=ju;have step:∀k,k≤len→∃(xs:List α) (ds:List Value) (G:List Nat),xs.length = k∧jo w xs ds G∧∀j u,ds[j]? = some u→w.cell? ⟨b,o+j,none⟩ = some u:=by
    intro k;induction k with
    | zero=>exact fun _=>⟨[],[],[],rfl,⟨rfl,rfl⟩,fun j u hu=>by simp at hu⟩
    | succ k ih =>
      intro hk;obtain ⟨xs,ds,G,mS,hr,hc⟩:=ih J;obtain ⟨Oh,cA,htr⟩:=hi k J;obtain ⟨x,F,hxr⟩:=h H enc w base n spare held Oh _ htr;obtain ⟨_,kW,dt⟩:=World.cells?_some cA;refine ⟨xs++[x],ds++Oh,G++F,by simp [mS],hr.append (.single hxr),fun j u hu=>?_⟩;have gg:=hr.len;rw [mS] at gg;by_cases hj:j < ds.length
      ·exact hc j u (by rwa [List.getElem?_append_left hj] at hu)
      ·rw [List.getElem?_append_right J] at hu;have R':=(List.getElem?_eq_some_iff.1 hu).1;have Z:=dt (i:=j - ds.length) J;rw [hu,hC] at Z;have e1:((⟨b,o,none⟩:Addr).add (k * bb.size α)).add (j - ds.length) = ⟨b,o+j,none⟩:=by
        rw [Deep.add_add];unfold Addr.add;split
        ·simp <;> omega
        ·simp <;> omega
       rw [e1] at Z;exact Z
   obtain ⟨xs,ds,G,mS,hr,hc⟩:=step len (Nat.le_refl _);subst mS;exact ⟨xs,b :: G,_,ar,G,ds,rfl,hl,hm,hr,.inr ⟨b,o,rfl,rfl,hblt,hc⟩⟩
theorem mG {w w':World} {B e size n:Nat} {v:Value} {xs:List Value} (h:w.ownsRow B e size v n xs) (U:Below w.heap.size w w'):w'.ownsRow B e size v n xs :=
 h.kept (row:=none) ⟨U.os,U.tape,U.output,U.size,fun k hk _=>U.block k hk⟩ (by cases hv:v.ownBlock <;> simp)
theorem vP {w:World} {B B' e size n:Nat} {v:Value} {xs:List Value} (h:w.ownsRow B e size v n xs) (hB:B'≤B):w.ownsRow B' e size v n xs:=by
 refine ⟨h.1,?_⟩;rcases h.2 with h | ⟨g,ar,dT,Z,h2,h3⟩
 ·exact .inl h
 ·exact .inr ⟨g,ar,dT,Z,Nat.le_trans hB h2,h3⟩
def DK (u v:Value):Prop:=u.ownBlock = none∨u.ownBlock≠v.ownBlock
theorem DK.symm {u v:Value} (h:DK u v):DK v u:=by
 unfold DK at *;rcases h with h | h
 ·cases hv:v.ownBlock with
  | none=>exact .inl rfl
  | some k=>right;rw [h];simp
 ·exact .inr (Ne.symm h)
theorem DK.grow {u u' v:Value} {w:World} {B e size n:Nat} {xs:List Value} (h:DK u v) (hv:w.ownsRow B e size v n xs) {N:Nat} (hN:w.heap.size≤N) (dt:u'.ownBlock = u.ownBlock∨u'.ownBlock = some N):DK u' v:=by
 rcases dt with dt | dt
 ·unfold DK at *;rw [dt];exact h
 ·right;rw [dt];intro e;have:=hv.lt N e.symm;omega
section
variable {P:Program} {t e:TypeId} {z:Value} {size bytes:Nat}
theorem uf (hE:DL P t e z size bytes) {ops:Array Oper} {rest:List Oper} {o:Oper} {a:Act} {Q:Exit→Act→World→Prop} (rR:o.guard = none) (s x:Operand)
 (ho:o.op = .call { callee:=.builtin .append,args:=#[s,x],argTypes:=#[t,t] })
 (w:World) (base:Nat) (v:Value) (n:Nat) (xs:List Value) (bi:w.ownsRow base e size v n xs) (hs:a.eval s = v)
 (cs:List Value) (hx:a.eval x = .slice (some ⟨w.heap.size,0,none⟩) 1 1) (hl:cs.length = size) (Z:∀u∈cs,u.oneCell' = true)
 (X:n≤2097152) (lU:bytes≤4096) (db:base≤w.heap.size)
 (h:∀v' w',w'.ownsRow base e size v' (n+1) (xs++cs)→w.grownBy w' v.ownBlock→w.heap.size+1≤w'.heap.size→(v'.ownBlock = v.ownBlock∨v'.ownBlock = some (w.heap.size+1))→wpList P ops Q rest (a.put o.dst v') w'):wpList P ops Q (o :: rest) a (w.alloc (.cells cs.toArray e)):=by
 obtain ⟨ht,hi0,j6,fX⟩:=hE;obtain ⟨i,hi,hz,hsize,U⟩:=info_parts hi0;have iP:(n+1) * bytes≤2097153 * 4096:=Nat.mul_le_mul J lU;refine wpList_append_own_at (w.alloc (.cells cs.toArray e)) rR s x t ho base e i z size bytes ht hi hz hsize U j6 fX v n xs hs (bi.alloc _) ⟨w.heap.size,0,none⟩ 1 1 cs hx J ?_ Z j4 J (by simp;omega) ?_
 ·exact xy
 ·intro v' w' lV hg _ dt;refine h v' w' lV ⟨hg.os,hg.tape,hg.output,Nat.le_trans S' hg.size,fun k hk bX=>?_⟩ RS (by simpa using dt);rw [hg.block k (by simp;omega) bX];exact Below.heap_alloc _ _ _ hk
end
theorem Sl.oJ {α:Type} [bb α] {w:World} {B:Nat} {e:TypeId} {v:Value} {xs:List α} {ds:List Value} {F:List Nat} (h0:w.ownsRow B e (bb.size α) v xs.length ds) (h:jo w xs ds F):∃A c G,v = .slice A xs.length c∧Sl w xs A c G:=by
 rcases h0 with ⟨hl,⟨rfl,X⟩ | ⟨g,ar,dT,rfl,U,hh,gL,hm,cA,ht⟩⟩
 ·obtain rfl:xs = []:=List.eq_nil_of_length_eq_zero X;exact ⟨none,0,[],rfl,Sl.nil w none 0 (Nat.zero_le _)⟩
 ·have hg:g < w.heap.size:=by
   exact xA
  refine ⟨_,ar,g :: F,rfl,⟨_,ar,F,ds,rfl,gL,hm,h,.inr ⟨g,0,rfl,rfl,hg,fun j u hu=>?_⟩⟩⟩;exact xp
theorem Fv (w:World):∀(xs:List Int),(∀x∈xs,bt x)→jo w xs (xs.map fun n=>.int .i64 n) []
 | [],_=>⟨rfl,rfl⟩
 | x :: xs,h=>⟨[.int .i64 x],_,[],[],rfl,rfl,jL w x (h x (List.mem_cons_self ..)),Fv w xs fun y hy=>h y (List.mem_cons_of_mem _ hy)⟩
theorem Yy:(Tryz.prog.info? 3).map (fun i=>(i.zero,i.size,i.bytes)) = some (some (.int .i64 0),1,8):=by kernel_rfl
theorem Be:DL Tryz.prog 42 3 (.int .i64 0) 1 8:=⟨Tryz.underlying42,Yy,rfl,J⟩
def Qa:List Int→Int
 | []=>0
 | x :: xs=>if x = 0 then Qa xs else x
theorem bt.small {n:Int} (h:-1≤n∧n≤1):bt n:=by unfold bt;omega
section
variable {α β:Type} [bb α] [bb β] {w:World} {B B2:Nat} {x:α} {y:β} {c1 c2:List Value} {F1 F2:List Nat}
theorem am.eD (Z:am w B x c1 F1) (h2:am w B2 y c2 F2) (hB:B≤B2) (hF:∀b∈F1,b < B2):am w B (x,y) (c1++c2) (F1++F2):=by
 refine ⟨⟨c1,c2,F1,F2,rfl,rfl,Z.rd,h2.rd⟩,?_,?_,?_⟩
 ·rw [List.nodup_append];exact ⟨Z.nodup,h2.nodup,fun a ha b U=>by have:=hF a ha;have:=h2.base b U;omega⟩
 ·intro b U;rcases List.mem_append.1 U with U | U
  ·exact Z.base b U
  ·exact Nat.le_trans hB (h2.base b U)
 ·intro b U;rcases List.mem_append.1 U with U | U
  ·exact Z.plain b U
  ·exact h2.plain b U
theorem am.up {γ:Type} {z:γ} {cs:List Value} {F:List Nat} {B':Nat} (g:γ→β) (h:am w B' (g z) cs F) (hB:B≤B'):@am γ (bb.mq g) w B z cs F :=
 @am.mk γ (bb.mq g) w B z cs F h.rd h.nodup (fun b U=>Nat.le_trans hB (h.base b U)) h.plain
theorem P7 {w:World} {g:Nat} {c:Array Value} {t:TypeId} (h:w.heap[g]? = some (.cells c t)):∀j,w.cell? ⟨g,j,none⟩ = c[j]?:=fun j=>cell_of_row w g j c t (0,0) h
theorem am.cons (Z:Go.Proofs.YtajbbmembionpaaGreat.bb.rd w x c1 []) (h2:am w B y c2 F2):am w B (x,y) (c1++c2) F2:=by
 have:=(am.cQ (B:=B) Z).eD h2 (Nat.le_refl _) (fun b U=>by cases U);simpa using this
end
theorem Zf:(Tryz.prog.info? 9).map (fun i=>(i.zero,i.size,i.bytes)) = some (some (.string ⟨#[]⟩),1,16):=by kernel_rfl
theorem qw:DL Tryz.prog 40 9 (.string ⟨#[]⟩) 1 16:=⟨Tryz.underlying40,Zf,rfl,J⟩
end Go.Proofs.YtajbbmembionpaaGreat
