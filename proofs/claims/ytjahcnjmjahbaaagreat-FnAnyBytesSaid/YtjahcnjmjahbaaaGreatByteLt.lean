/- The order of strings is a strict total order. No condition. -/
import Derived.Test.YtjahcnjmjahbaaaGreatEq
import Derived.Lib.SlicesCompact
import Derived.Test.YtjahcnjmjahbaaaGreatValCmp
import Derived.Test.YtjahcnjmjahbaaaGreatRegionCut
namespace Go.Proofs.YtjahcnjmjahbaaaGreat
open Go.ChangeShapes Go.WideShapes Go.ChangeAt Go.RowKit
set_option linter.unusedVariables false
set_option linter.unusedSimpArgs false
set_option maxHeartbeats 1000000
set_option maxRecDepth 100000
theorem PA:∀a:List UInt8,Op.bytesLess a a = false
 | []=>rfl
 | x :: a=>by
   unfold Op.bytesLess;have ih:=PA a;have h:decide (x < x) = false:=S';simp [ih]
theorem Yq (x y:UInt8) (a b:List UInt8):Op.bytesLess (x :: a) (y :: b) = true↔x < y∨(x = y/\Op.bytesLess a b = true):=by
 conv=>lhs;unfold Op.bytesLess
 simp
theorem PB:∀a b c:List UInt8,Op.bytesLess a b = true->Op.bytesLess b c = true->Op.bytesLess a c = true
 | [],[],_,h,_=>by simp [Op.bytesLess] at h
 | [],_ :: _,[],_,h=>by simp [Op.bytesLess] at h
 | [],_ :: _,_ :: _,_,_=>by simp [Op.bytesLess]
 | _ :: _,[],_,h,_=>by simp [Op.bytesLess] at h
 | _ :: _,_ :: _,[],_,h=>by simp [Op.bytesLess] at h
 | x :: a,y :: b,z :: c,h1,h2=>by
   rw [Yq] at h1 h2 |-;rcases h1 with h1 | ⟨rfl,h1⟩
   ·rcases h2 with h2 | ⟨rfl,h2⟩
    ·exact .inl (UInt8.lt_trans h1 h2)
    ·exact .inl h1
   ·rcases h2 with h2 | ⟨rfl,h2⟩
    ·exact .inl h2
    ·exact .inr ⟨rfl,PB a b c h1 h2⟩
theorem PC:∀a b:List UInt8,Op.bytesLess a b = false->Op.bytesLess b a = false->a = b
 | [],[],_,_=>rfl
 | [],_ :: _,h,_=>by simp [Op.bytesLess] at h
 | _ :: _,[],_,h=>by simp [Op.bytesLess] at h
 | x :: a,y :: b,h1,h2=>by
   have e1:¬(x < y∨(x = y/\Op.bytesLess a b = true)):=(by rw [<- Yq,h1];simp);have e2:¬(y < x∨(y = x/\Op.bytesLess b a = true)):=(by rw [<- Yq,h2];simp);have Bt:x = y:=UInt8.le_antisymm (UInt8.not_lt.1 λh=>e2 (.inl h)) (UInt8.not_lt.1 λh=>e1 (.inl h));subst Bt;rw [PC a b (by cases h:Op.bytesLess a b;rfl;exact absurd (.inr ⟨rfl,h⟩) e1) (by cases h:Op.bytesLess b a;rfl;exact absurd (.inr ⟨rfl,h⟩) e2)]
theorem atx {a b:List UInt8} (h:Op.bytesLess a b = true):Op.bytesLess b a = false:=by
 cases h2:Op.bytesLess b a
 ·rfl
 ·have:=PB a b a h h2;rw [PA] at this;cases this
theorem Ai (y z:ByteArray):Op.bytesLess y.data.toList z.data.toList = !(Op.bytesLess z.toList y.toList || z.toList == y.toList):=by
 rw [ByteArray.toList_eq,ByteArray.toList_eq];cases h1:Op.bytesLess z.data.toList y.data.toList with
 | true=>rw [atx h1];rfl
 | false =>
   cases h2:(z.data.toList == y.data.toList) with
   | true =>rw [beq_iff_eq] at h2;rw [h2,PA];rfl
   | false =>
     cases h3:Op.bytesLess y.data.toList z.data.toList with
     | true=>rfl
     | false =>have:=PC _ _ h1 h3;rw [this] at h2;simp at h2
def blt (x y:ByteArray):Bool:=Op.bytesLess x.toList y.toList
theorem EP:zo blt:=⟨λx=>PA _,λx y z=>PB _ _ _,λx y h1 h2=>Ce (by rw [beq_iff_eq];exact PC _ _ h1 h2)⟩
def gj (xs:List ByteArray):List ByteArray:=ei blt [] xs
theorem aAP (xs:List ByteArray):(gj xs).length<=xs.length:=by have:=Bu blt xs [];unfold gj;simpa using this
theorem aA4 {xs:List ByteArray} {z:ByteArray} (h:z∈gj xs):z∈xs:=by
 rcases (Ju EP z xs []).1 h with h | h
 ·cases h
 ·exact h
theorem aB3 (xs:List ByteArray):kL ByteArray.size (gj xs)<=kL ByteArray.size xs:=by
 have h:=Jx ByteArray.size blt xs [];have hl:=Bu blt xs [];unfold gj kL;exact DG
theorem Gj {P:Program} {C:World->Prop} {v:Value} {r:Result Next} {w:World} (e:r = .ok (.value v) w) (h:C w):outcome P C v r:=by subst e;exact ⟨h,rfl⟩
theorem Y2 (x y:UInt8):x < y↔x.toNat < y.toNat:=UInt8.lt_iff_toNat_lt
theorem Hk {x y:UInt8} (h1:¬x < y) (h2:¬y < x):x = y:=by
 rw [Y2] at h1 h2;exact UInt8.toNat_inj.1 J
theorem GK:∀a b:List UInt8,Lib.compareBytes a b = 0↔a = b
 | [],[]=>by simp [Lib.compareBytes]
 | [],_ :: _=>by simp [Lib.compareBytes]
 | _ :: _,[]=>by simp [Lib.compareBytes]
 | x :: a,y :: b=>by
   have ih:=GK a b;unfold Lib.compareBytes;by_cases h1:x < y
   ·rw [if_pos h1];have:x≠y:=λe=>by subst e;rw [Y2] at h1;omega
    simp [this]
   ·rw [if_neg h1];by_cases h2:y < x
    ·rw [if_pos h2];have:x≠y:=λe=>by subst e;rw [Y2] at h2;omega
     simp [this]
    ·rw [if_neg h2,ih,Hk h1 h2];simp
theorem Ls:∀a b:List UInt8,Lib.compareBytes b a = - Lib.compareBytes a b
 | [],[]=>by simp [Lib.compareBytes]
 | [],_ :: _=>by simp [Lib.compareBytes]
 | _ :: _,[]=>by simp [Lib.compareBytes]
 | x :: a,y :: b=>by
   have ih:=Ls a b;unfold Lib.compareBytes;by_cases h1:x < y
   ·have h2:¬y < x:=(by rw [Y2] at *;omega);rw [if_pos h1,if_neg h2,if_pos h1];rfl
   ·by_cases h2:y < x
    ·rw [if_pos h2,if_neg h1,if_pos h2]
    ·rw [if_neg h2,if_neg h1,if_neg h1,if_neg h2,ih]
theorem aeM (a b:Int):Lib.compareInt a b = 0↔a = b:=by
 unfold Lib.compareInt;split
 ·omega
 ·split <;> omega
theorem aeN (a b:Int):Lib.compareInt b a = - Lib.compareInt a b:=by
 unfold Lib.compareInt;repeat' split
 all_goals omega
theorem ahr {a b:ByteArray} (h:a.data.toList = b.data.toList):a = b:=by cases a;cases b;simp_all
theorem acr:∀xs ys:List ByteArray,qW xs ys = 0↔xs = ys
 | [],[]=>by simp [qW]
 | [],_ :: _=>by simp [qW]
 | _ :: _,[]=>by simp [qW]
 | x :: xs,y :: ys=>by
   have ih:=acr xs ys;unfold qW;by_cases h:Lib.compareBytes x.data.toList y.data.toList = 0
   ·rw [if_pos h,ih,ahr ((GK _ _).1 h)];simp
   ·rw [if_neg h];have:x≠y:=λe=>h (by rw [e];exact (GK _ _).2 rfl);simp [this,h]
theorem acs:∀xs ys:List ByteArray,qW ys xs = - qW xs ys
 | [],[]=>by simp [qW]
 | [],_ :: _=>by simp [qW]
 | _ :: _,[]=>by simp [qW]
 | x :: xs,y :: ys=>by
   have ih:=acs xs ys;have ha:=Ls x.data.toList y.data.toList;unfold qW;by_cases h:Lib.compareBytes x.data.toList y.data.toList = 0
   ·rw [if_pos h,if_pos (by rw [ha,h];rfl),ih]
   ·rw [if_neg h,if_neg (by rw [ha];omega),ha]
theorem aqi (x y:aE):Qa (W9 y x) = - Qa (W9 x y):=by
 unfold W9;simp only [Qa];rw [Ls x.key.data.toList,aeN x.op,acs x.values];repeat' split
 all_goals omega
theorem aqj (x y:aE):Qa (W9 x y) = 0↔yI x y = true:=by
 rw [W6];have h1:=GK x.key.data.toList y.key.data.toList;have h2:=aeM x.op y.op;have h3:=acr x.values y.values;unfold W9;simp only [Qa];constructor
 ·intro h;by_cases e1:Lib.compareBytes x.key.data.toList y.key.data.toList = 0
  ·rw [if_pos e1] at h;by_cases e2:Lib.compareInt x.op y.op = 0
   ·rw [if_pos e2] at h;by_cases e3:qW x.values y.values = 0
    ·have k1:=ahr (h1.1 e1);have k2:=h2.1 e2;have k3:=h3.1 e3;cases x;cases y
     simp only at k1 k2 k3;subst k1 k2 k3;rfl
    ·rw [if_neg e3] at h;exact absurd h e3
   ·rw [if_neg e2] at h;exact absurd h e2
  ·rw [if_neg e1] at h;exact absurd h e1
 ·rintro rfl;rw [if_pos (h1.2 rfl),if_pos (h2.2 rfl),if_pos (h3.2 rfl)]
theorem ad4 (x y:aE):(Qa (W9 x y) == 0) = yI x y:=by
 rw [Bool.eq_iff_iff,beq_iff_eq];exact aqj x y
theorem amW (x y:aE):(!(nD x y || nD y x)) = yI x y:=by
 rw [<- ad4];unfold nD;rw [aqi x y];by_cases h:Qa (W9 x y) = 0
 ·simp [h]
 ·have h1:(Qa (W9 x y) == 0) = false:=by simpa using h
  rw [h1];by_cases h2:Qa (W9 x y) < 0
  ·simp [h2]
  ·have h3:- Qa (W9 x y) < 0:=J;rw [decide_eq_true h3,decide_eq_false h2];rfl
theorem pJ (xs ys:List ao) (A B:Option Addr) (c d:Nat) (F G:List Nat) (w:World) (h:Sl w xs A c F) (h':Sl w ys B d G) :
 Calls Tryz.prog 40 #[.slice A xs.length c,.slice B ys.length d] w λe w'=>e = .returned (.bool (same vZ xs ys))/\Below w.heap.size w w':=by
 have hc:=h.cap;unfold maxLen at hc;obtain ⟨cO,bX⟩:=hc;have hd:=h'.cap;unfold maxLen at hd;obtain ⟨xm,Ib⟩:=hd;by_cases hl:xs.length = ys.length
 ·have HL:=I hl;have bi:((xs.length:Int) != (ys.length:Int)) = false:=by simp [hl]
  clear hl;go_enter Tryz.func40,Tryz.ntmps40;go_wp2;go_loopw [5] (λi wr=>∃k:Nat,k<=xs.length/\i = .int .i64 k/\Hid (same vZ (xs.take k) (ys.take k) = true)/\Below w.heap.size w wr) (λi _=>xs.length - (intOf i).toNat)
  case atStart=>exact ⟨0,Nat.zero_le _,rfl,by show _ = true;simp [same],aj _⟩
  case round =>
   obtain ⟨k,hk,rfl,Heq,ax⟩:=hrel;by_cases am:k < xs.length
   ·obtain ⟨b,o,ck,Fk,rfl,o9,hbs,hr,bm,hc⟩:=(h.ext ax).get am;have fp:k < ys.length:=(by rw [<- HL.out];exact am);obtain ⟨b',o',TY,Xw,rfl,Ht,hbs',cJ,zQ,hc'⟩:=(h'.ext ax).get fp;obtain ⟨aq,rfl,xO,xk⟩:=vO hr;subst aq;obtain ⟨aq,rfl,vC,rP⟩:=vO cJ;subst aq;obtain ⟨q0,q1⟩:=xN 2 hc;obtain ⟨p0,p1⟩:=xN 2 hc';clear hc hc';go_wp2_with fail
    refine aF wr U' U' xD ?_
    repeat (first
     | (apply aG
        case hw=>rfl
        simp only [Act.put,pz])
     | (apply aH
        case hw=>rfl
        case h =>
         intro wq hq;have cN:=(aB hq).1;have lJ:=(aB hq).2;go_simp
         first
          | exact ⟨hq,rfl⟩
          | exact ⟨aQ hq _,rfl⟩
          | ((refine Gj (v:=.bool (!(vZ xs[k] ys[k]))) ?_ hq;unfold vZ;repeat' split;all_goals simp [*]))
          | (simp only [↓IntWalk.iteOmega];exact ⟨hq,rfl⟩)
        simp only [Act.put,pz]))
    refine aN ?_;intro wn hn;replace hn:=hn.out;go_wp2
    ·rename_i bN;go_ret
     refine ⟨?_,ah ax hn⟩;rw [nP (k+1) avD HL.out];rfl
    ·exact LZ
   ·exact Mv
 ·have bi:((xs.length:Int) != (ys.length:Int)) = true:=by simp;omega
  have HL:=I (qN (eq:=vZ) hl);clear hl;go_enter Tryz.func40,Tryz.ntmps40;go_wp2;go_ret
  exact ⟨by rw [HL.out];rfl,aj _⟩
section
variable {P:Program} {l:List Oper} {C:World->Prop} {Q:Exit->Act->World->Prop}
def mU (P:Program) (l:List Oper) (Q:Exit->Act->World->Prop) (C:World->Prop) (n:Nat) (listed:Array Bool) (a:Act) (w:World):Prop:=wpAnyH P .any l.toArray Q C n listed a w
theorem zU {id:Nat} {a:Act} {w:World} (w0:World) (n:Nat) (hm:P.follows .mixedOrders = true) (hn:l.toArray.size = n) (hw:Below w0.heap.size w0 w)
 (h:mU P l Q (ib w0) n (Array.replicate n false) a w.drew):(Code.region id l.toArray true).wp P Q a w:=by
 subst hn;exact wp_region_held_drew (S:=ib w0) hm (aA hw) λ_=>h
theorem aX {n:Nat} {listed:Array Bool} {a:Act} {w:World} (i:Nat) {o:Oper} (v:Value) (ho:l[i]? = some o) (hB:(Region.noSelect l.toArray&&Region.free .any l.toArray listed i&&(Region.ready .any l.toArray listed).contains i) = true)
 (hQ:∀c a d v w,Q (.panic c) (Act.put a d v) w->Q (.panic c) a w) (hC:C w) (hy:YieldsIf P l.toArray C o v a) (h:mU P l Q C n (listed.setIfInBounds i true) (a.put o.dst v) w):mU P l Q C (n+1) listed a w:=by
 simp only [Bool.and_eq_true] at hB;exact wpAnyH_take (by simpa using ho) hB.1.1 hB.1.2 hB.2 (λc a' w'=>hQ c a' _ v w') hy hC h
theorem Xi {n:Nat} {listed:Array Bool} {a:Act} {w:World} {i:Nat} {o:Oper} (ho:l[i]? = some o) (hw:Region.wanted o (yielded l.toArray a.tmps) = true)
 (h:∀K:Act->World->Prop,(∀a' w',C w'->mU P l Q C n (listed.setIfInBounds i true) a' w'->K a' w')->o.wp P a w K Q) :
 wpOp P l.toArray Q i (λa' w'=>C w'/\wpAnyH P .any l.toArray Q C n (listed.setIfInBounds i true) a' w') a w:=by
 unfold wpOp;rw [show l.toArray[i]? = some o by simpa using ho];dsimp only;rw [if_pos hw];exact .inl (h _ λa' w' h1 h2=>⟨h1,h2⟩)
theorem bP {n:Nat} {listed:Array Bool} {a:Act} {w:World} (i:Nat) {o:Oper} (ho:l[i]? = some o) (hr:Region.ready .any l.toArray listed = [i]) (hw:Region.wanted o (yielded l.toArray a.tmps) = true)
 (h:∀K:Act->World->Prop,(∀a' w',C w'->mU P l Q C n (listed.setIfInBounds i true) a' w'->K a' w')->o.wp P a w K Q):mU P l Q C (n+1) listed a w :=
 wpAnyH_all hr S' λj hj=>by
  obtain rfl:j = i:=by simpa using hj
  exact Xi ho hw h
theorem D7 {n:Nat} {listed:Array Bool} {a:Act} {w:World} (i j:Nat) {o o':Oper} (ho:l[i]? = some o) (ho':l[j]? = some o') (hr:Region.ready .any l.toArray listed = [i,j]) (hw:Region.wanted o (yielded l.toArray a.tmps) = true) (ic:Region.wanted o' (yielded l.toArray a.tmps) = true)
 (h:∀K:Act->World->Prop,(∀a' w',C w'->mU P l Q C n (listed.setIfInBounds i true) a' w'->K a' w')->o.wp P a w K Q)
 (h':∀K:Act->World->Prop,(∀a' w',C w'->mU P l Q C n (listed.setIfInBounds j true) a' w'->K a' w')->o'.wp P a w K Q):mU P l Q C (n+1) listed a w :=
 wpAnyH_all hr S' λk hk=>by
  simp only [List.mem_cons,List.not_mem_nil,or_false] at hk;rcases hk with rfl | rfl
  ·exact Xi ho hw h
  ·exact Xi ho' ic h'
theorem YU {n:Nat} {listed:Array Bool} {a:Act} {w:World} (E:Act->Act->World->Prop) (hE:∀a' w',E a a' w'->Q .normal a' w') (h:(∀a' w',E a a' w'->Q .normal a' w')->mU P l Q C n listed a w):mU P l Q C n listed a w:=h hE
theorem nR {listed:Array Bool} {a:Act} {w:World} (hr:Region.ready .any l.toArray listed = []) (h:Q .normal a w):mU P l Q C 0 listed a w:=wpAnyH_done hr h 0
end
section
variable {P:Program} {ops:Array Oper} {md:Region.Mode} {C:World->Prop} {Q:Exit->Act->World->Prop}
def AZ (ops:Array Oper) (js ks:List Nat) (m:Nat):Bool :=
 Region.noSelect ops&&decide (m+(ks.length+js.length) = ops.size)&&VH .any ops js (Array.replicate ops.size false)&&Pk .any ops ks (zY js (Array.replicate ops.size false))&&js.all (λi=>Ug .any ops (zY ks (zY js (Array.replicate ops.size false))) i)
theorem azp {id:Nat} {a:Act} {w:World} {l:List Oper} (C C2:World->Prop) (js ks:List Nat) (m:Nat) (hm:P.follows .mixedOrders = true) (hB:AZ l.toArray js ks m = true) (hQ:∀c a d v w,Q (.panic c) (Act.put a d v) w->Q (.panic c) a w)
 (hC:C w.drew) (h:OQ P l.toArray C (λa'=>Lr P l.toArray C Q (mU P l Q C2 m (zY ks (zY js (Array.replicate l.toArray.size false)))) (pick l ks) a' w.drew) (pick l js) a):(Code.region id l.toArray true).wp P Q a w:=by
 simp only [AZ,Bool.and_eq_true] at hB;obtain ⟨⟨⟨⟨hs,hn⟩,hh⟩,hk⟩,hg⟩:=hB;rw [decide_eq_true_eq] at hn;let L:=zY ks (zY js (Array.replicate l.toArray.size false))
 let E:Array Bool->Act->World->Prop:=λq b w'=>q = L/\mU P l Q C2 m L b w'
 have mono:∀(zz:List Oper) (b:Act),OQ P l.toArray C (λa'=>Lr P l.toArray C Q (mU P l Q C2 m (zY ks (zY js (Array.replicate l.toArray.size false)))) (pick l ks) a' w.drew) zz b ->
     OQ P l.toArray C (λa'=>V6 P .any l.toArray Q C E ks.length (zY js (Array.replicate l.toArray.size false)) a' w.drew) zz b:=by
  intro zz;induction zz with
  | nil =>
    intro b hb;refine X' (md:=.any) l ks _ b w.drew rfl hk ?_;have e:E (zY ks (zY js (Array.replicate l.toArray.size false))) = mU P l Q C2 m (zY ks (zY js (Array.replicate l.toArray.size false))):=by
     funext b w';exact propext ⟨λh=>h.2,λh=>⟨rfl,h⟩⟩
    rw [e];exact hb
  | cons o zz ih =>intro b ⟨v,hy,hb⟩;exact ⟨v,hy,ih _ hb⟩
 have h1:=ZX (md:=.any) (P:=P) (C:=C) (E:=E) hs hQ hC L (λl a w he=>he.1) l js ks.length (Array.replicate l.toArray.size false) a rfl hh hg (mono _ _ h)
 have h2:=XZ (md:=.any) (P:=P) (C:=C) (E:=E) (m:=m) (λq b w' he=>by
  obtain ⟨rfl,hl⟩:=he
  exact wpAny_of_held _ _ _ _ hl) _ _ _ _ h1
 rw [hn] at h2;exact wp_region_any hm h2
end
theorem qQ {P:Program} {t e:TypeId} {z:Value} {size bytes:Nat} (hE:DL P t e z size bytes) {o:Oper} {a:Act} {K:Act->World->Prop} {Q:Exit->Act->World->Prop} (s x:Operand)
 (ho:o.op = .call { callee:=.builtin .append,args:=#[s,x],argTypes:=#[t,t] })
 (w:World) (base:Nat) (v:Value) (n:Nat) (xs:List Value) (ar:w.ownsRow base e size v n xs) (hs:a.eval s = v)
 (ad:Addr) (m c:Nat) (news:List Value) (hx:a.eval x = .slice (some ad) m c) (hl:news.length = m * size) (gr:∀j u,news[j]? = some u->w.cell? (ad.add j) = some u) (h1:∀u∈news,u.oneCell' = true)
 (hn:n+m<=2097152) (mS:bytes<=4096) (dl:base<=w.heap.size)
 (h:∀v' w',w'.ownsRow base e size v' (n+m) (xs++news)->w.grownBy w' v.ownBlock->(v'.ownBlock = v.ownBlock∨v'.ownBlock = some w.heap.size)->K (a.put o.dst v') w'):o.wp P a w K Q:=by
 obtain ⟨ht,hi0,kX,eJ⟩:=hE;obtain ⟨i,hi,hz,hsize,hb⟩:=info_parts hi0;have ot:(n+m) * bytes<=2097152 * 4096:=Nat.mul_le_mul J mS;obtain ⟨v',w',hr,h2,h3,h4,h5⟩:=run_append_own_at (P:=P) w base t o.type e i z size bytes ht hi hz hsize hb kX eJ v n xs ar ad m c news hl gr h1 jp J dl;unfold Oper.wp execOp;simp only [ho,resolve,invoke,builtin,Sem.run_bind,Sem.run_pure,Result.andThen_ok,List.map_toArray,List.map_cons,List.map_nil,hs,hx,hr];exact h v' w' h2 h3 h5
theorem xW {P:Program} {t e:TypeId} {z:Value} {size bytes:Nat} (hE:DL P t e z size bytes) {ops:Array Oper} {rest:List Oper} {o:Oper} {a:Act} {Q:Exit->Act->World->Prop} (vf:o.guard = none) (s x:Operand)
 (ho:o.op = .call { callee:=.builtin .append,args:=#[s,x],argTypes:=#[t,t] })
 (w:World) (base:Nat) (v:Value) (n:Nat) (xs:List Value) (ar:w.ownsRow base e size v n xs) (hs:a.eval s = v)
 (ad:Addr) (m c:Nat) (news:List Value) (hx:a.eval x = .slice (some ad) m c) (hl:news.length = m * size) (gr:∀j u,news[j]? = some u->w.cell? (ad.add j) = some u) (h1:∀u∈news,u.oneCell' = true)
 (hn:n+m<=2097152) (mS:bytes<=4096) (dl:base<=w.heap.size)
 (h:∀v' w',w'.ownsRow base e size v' (n+m) (xs++news)->w.grownBy w' v.ownBlock->(v'.ownBlock = v.ownBlock∨v'.ownBlock = some w.heap.size)->wpList P ops Q rest (a.put o.dst v') w'):wpList P ops Q (o :: rest) a w :=
 wpList_plain vf λK hK=>qQ hE s x ho w base v n xs ar hs ad m c news hx hl gr h1 hn mS dl λv' w' h1 h2 h3=>hK _ _ (h v' w' h1 h2 h3)
theorem D9 (W:World) (e:TypeId) (size N:Nat) (hN:W.heap.size = N):(W.alloc (.cells #[] e)).ownsRow N e size (.slice (some ⟨N,0,none⟩) 0 0) 0 []:=by
 subst hN;exact World.ownsRow_made W #[] 0 (Nat.le_refl _) (Nat.zero_le _) S'
theorem DI (W:World) (e:TypeId) (ON:List Value) (N:Nat) (hN:W.heap.size = N):∀q u,ON[q]? = some u->(W.alloc (.cells ON.toArray e)).cell? ((⟨N,0,none⟩:Addr).add q) = some u:=by
 subst hN;intro q u hu;rw [Addr.add_lit,Nat.zero_add,cell_of_row _ _ _ _ _ _ (heap_alloc_new W _)];simpa using hu
theorem wW {w:World} {B e size n:Nat} {v:Value} {xs:List Value} (h:w.ownsRow B e size v n xs) (hn:0 < n):∃g cap,v = .slice (some ⟨g,0,none⟩) n cap/\B<=g/\n<=cap/\g < w.heap.size:=by
 rcases h.2 with h | ⟨g,cap,bp,h1,h2,h3,h4,h5⟩
 ·omega
 ·refine ⟨g,cap,h1,h2,h4,?_⟩;exact Nt
theorem IE {w:World} {B e size n g cap:Nat} {xs:List Value} (h:w.ownsRow B e size (.slice (some ⟨g,0,none⟩) n cap) n xs):B<=g/\g < w.heap.size/\n<=cap/\∀j u,xs[j]? = some u->w.cell? ⟨g,j,none⟩ = some u:=by
 rcases h.2 with ⟨h,_⟩ | ⟨g',cap',bp,h1,h2,h3,h4,h5⟩
 ·cases h
 ·simp only [Value.slice.injEq,Option.some.injEq,Addr.mk.injEq,and_true,true_and] at h1;obtain ⟨rfl,rfl⟩:=h1;refine ⟨h2,?_,h4,λj u hu=>?_⟩
  ·exact Nt
  ·rw [cell_of_row w g j bp e (0,0) h3];have hj:=(List.getElem?_eq_some_iff.1 hu).1;rw [<- h5.2.2,List.getElem?_take] at hu;split at hu
   ·simpa using hu
   ·cases hu
theorem PY {β:Type} {lt:β->β->Bool} {y:β} : ∀(s1 s2:List β),(∀x∈s1,lt y x = false)->(s2 = []∨∃x s',s2 = x :: s'/\lt y x = true)->OM lt y (s1++s2) = s1++y :: s2
 | [],s2,_,h2=>by
   rcases h2 with rfl | ⟨x,s',rfl,h⟩
   ·rfl
   ·simp only [List.nil_append];rw [OM,if_pos h]
 | x :: s1,s2,h1,h2=>by
   have h0:=h1 x (List.mem_cons_self ..);simp only [List.cons_append];rw [OM,if_neg (by rw [h0];simp),PY s1 s2 (λz hz=>h1 z (List.mem_cons_of_mem _ hz)) h2]
end Go.Proofs.YtjahcnjmjahbaaaGreat
