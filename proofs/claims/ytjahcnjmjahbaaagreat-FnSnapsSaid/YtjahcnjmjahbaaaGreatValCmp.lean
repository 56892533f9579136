/- cmp.Compare and slices.Compare of strings. No condition. -/
import Derived.Test.YtjahcnjmjahbaaaGreatCmp2
import Derived.Laws.Cover1
namespace Go.Proofs.YtjahcnjmjahbaaaGreat
open Go.ChangeShapes Go.WideShapes Go.ChangeAt Go.RowKit
set_option linter.unusedVariables false
set_option linter.unusedSimpArgs false
set_option maxHeartbeats 2000000
set_option maxRecDepth 100000
theorem ZU (a b:List UInt8) (h1:Op.bytesLess a b = true):Lib.compareBytes a b = -1:=by
 have h3:=qj a b;have h4:=(Wx a b).2 h1;omega
theorem Px:∀a b:List UInt8,Lib.compareBytes b a = - Lib.compareBytes a b
 | [],[]=>rfl
 | [],_ :: _=>rfl
 | _ :: _,[]=>rfl
 | x :: a,y :: b=>by
   have ih:=Px a b;unfold Lib.compareBytes;by_cases h1:x < y
   ·have h2:¬y < x:=fun h=>absurd (UInt8.lt_trans h1 h) (UInt8.lt_irrefl _);rw [if_pos h1,if_neg h2,if_pos h1];rfl
   ·by_cases h2:y < x
    ·rw [if_pos h2,if_neg h1,if_pos h2]
    ·rw [if_neg h1,if_neg h2,if_neg h2,if_neg h1];exact ih
theorem Yb (a b:ByteArray) (w:World):Calls Tryz.prog 158 #[.string a,.string b] w fun e w'=>e = .returned (.int .i64 (Lib.compareBytes a.data.toList b.data.toList))∧w' = w:=by
 have haa:(a.toList == a.toList) = true:=by simp
 have o4:(b.toList == b.toList) = true:=by simp
 cases h1:Op.bytesLess a.toList b.toList with
 | true =>have hf:=ZU _ _ h1;rw [ByteArray.toList_eq,ByteArray.toList_eq] at hf;rw [hf];exact Ai
 | false =>
   cases h2:Op.bytesLess b.toList a.toList with
   | true =>
     have hf:=ZU _ _ h2;rw [Px,ByteArray.toList_eq,ByteArray.toList_eq] at hf;have h9:(a.toList == b.toList) = false:=by rw [beq_eq_false_iff_ne];intro e;rw [ByteArray.toList_eq,ByteArray.toList_eq,← J5] at e;omega
     rw [show Lib.compareBytes a.data.toList b.data.toList = 1 by omega];exact Ai
   | false =>
     have h3:¬Lib.compareBytes a.toList b.toList < 0:=fun h=>by rw [Wx,h1] at h;cases h
     have h4:¬Lib.compareBytes b.toList a.toList < 0:=fun h=>by rw [Wx,h2] at h;cases h
     rw [Px] at h4;rw [ByteArray.toList_eq,ByteArray.toList_eq] at h3 h4;have h8:Lib.compareBytes a.data.toList b.data.toList = 0:=J;have h9:(a.toList == b.toList) = true:=by rw [beq_iff_eq,ByteArray.toList_eq,ByteArray.toList_eq];exact (J5 _ _).1 h8
     rw [h8];exact Ai
def qW:List ByteArray→List ByteArray→Int
 | [],[]=>0
 | [],_ :: _=>-1
 | _ :: _,[]=>1
 | x :: xs,y :: ys=>if Lib.compareBytes x.data.toList y.data.toList = 0 then qW xs ys else Lib.compareBytes x.data.toList y.data.toList
theorem ZZ {xs ys:List ByteArray} {k:Nat} (h:k < xs.length) (h':k < ys.length):qW (xs.drop k) (ys.drop k) = if Lib.compareBytes xs[k].data.toList ys[k].data.toList = 0 then qW (xs.drop (k+1)) (ys.drop (k+1)) else Lib.compareBytes xs[k].data.toList ys[k].data.toList:=by
 rw [← List.getElem_cons_drop h,← List.getElem_cons_drop h'];rfl
theorem Z0 {xs ys:List ByteArray} {k:Nat} (h:k < xs.length) (h':ys.length≤k):qW (xs.drop k) (ys.drop k) = 1:=by
 rw [← List.getElem_cons_drop h,List.drop_eq_nil_of_le h'];rfl
theorem Z1 {xs ys:List ByteArray} {k:Nat} (h:xs.length≤k):qW (xs.drop k) (ys.drop k) = if k < ys.length then -1 else 0:=by
 rw [List.drop_eq_nil_of_le h];by_cases h':k < ys.length
 ·rw [if_pos h',← List.getElem_cons_drop h'];rfl
 ·rw [if_neg h',List.drop_eq_nil_of_le J];rfl
theorem ZR:∀xs ys:List ByteArray,-1≤qW xs ys∧qW xs ys≤1
 | [],[]=>by simp [qW]
 | [],_ :: _=>by simp [qW]
 | _ :: _,[]=>by simp [qW]
 | x :: xs,y :: ys=>by
   have h1:=ZR xs ys;have h2:=qj x.data.toList y.data.toList;unfold qW;split <;> omega
theorem aeC (xs ys:List ByteArray) (A B:Option Addr) (n m c d:Nat) (F G:List Nat) (w:World) (h:Sl w xs A c F) (h':Sl w ys B d G) (hn:n = xs.length) (hm:m = ys.length) (hl:(xs.length:Int)≤1048576) (vQ:(ys.length:Int)≤1048576) :
 Calls Tryz.prog 200 #[.slice A n c,.slice B m d] w fun e w'=>e = .returned (.int .i64 (qW xs ys))∧w' = w:=by
 subst hn hm;go_enter Tryz.func200,Tryz.ntmps200;go_wp2_with fail
 go_loop [11] (fun i=>∃k:Nat,k≤xs.length∧i = .int .i64 k∧Hid (k≤ys.length)∧Hid (qW xs ys = qW (xs.drop k) (ys.drop k))) (fun i=>xs.length - (intOf i).toNat)
 case atStart=>exact ⟨0,Nat.zero_le _,rfl,Nat.zero_le _,rfl⟩
 case round =>
  obtain ⟨k,hk,rfl,HK,HO⟩:=hrel;have hky:=HK.out;by_cases ap:k < xs.length
  ·obtain ⟨b,o,ck,Fk,rfl,o9,hbs,hr,bv,hc⟩:=h.get ap;obtain ⟨aw,su,eQ⟩:=hr;subst aw su;have q0:w.cell? ⟨b,o+k,none⟩ = some (.string xs[k]):=(by have:=hc 0 _ rfl;rwa [show o+(k * bd.size ByteArray+0) = o+k from by show o+(k * 1+0) = _;omega] at this);clear hc;by_cases hly:k < ys.length
   ·obtain ⟨b2,o2,ck2,Fk2,rfl,ayO,uO,fc,iY,ce⟩:=h'.get hly;obtain ⟨aw,su,hsz2⟩:=fc;subst aw su;have p0:w.cell? ⟨b2,o2+k,none⟩ = some (.string ys[k]):=(by have:=ce 0 _ rfl;rwa [show o2+(k * bd.size ByteArray+0) = o2+k from by show o2+(k * 1+0) = _;omega] at this);clear ce;have hd:=ZZ ap hly;have hC:=Yb xs[k] ys[k] w;generalize hz:Lib.compareBytes xs[k].data.toList ys[k].data.toList = z at hd hC;by_cases h0:z = 0
    ·rw [if_pos h0] at hd;have HN:=I (HO.out.trans hd);have HC:=I hC;clear hd hC hz;subst h0;go_wp2_with (go_at_call 158;refine HC.out.mono ?_;rintro e w2 ⟨rfl,rfl⟩)
     exact ⟨⟨k+1,J,N',by show k+1≤ys.length;omega,HN.out⟩,by simp [intOf];omega⟩
    ·rw [if_neg h0] at hd;have HN:=I (HO.out.trans hd);have HC:=I hC;have fJ:(z == 0) = false:=(by simp [h0]);have bk:(z != 0) = true:=(by simp [h0]);clear hd hC hz;go_wp2_with (go_at_call 158;refine HC.out.mono ?_;rintro e w2 ⟨rfl,rfl⟩)
     go_ret
     exact ⟨by rw [HN.out];rfl,rfl⟩
   ·have HN:=I (HO.out.trans (Z0 ap J));have lA:(ys.length:Int)≤k:=J;exact qB
  ·have bx:k = xs.length:=J;subst bx;have he:=HO.out.trans (Z1 (Nat.le_refl _));by_cases hly:xs.length < ys.length
   ·rw [if_pos hly] at he;have HN:=I he;clear he;have SF:(xs.length:Int) < ys.length:=J;exact qB
   ·rw [if_neg hly] at he;have HN:=I he;clear he;have SF:¬(xs.length:Int) < ys.length:=J;exact qB
def pE (a b:Bool):Int:=if a == b then 0 else if b then -1 else 1
theorem anp (a b:Bool):-1≤pE a b∧pE a b≤1:=by cases a <;> cases b <;> decide
theorem adw (a b:Bool) (w:World):Calls Tryz.prog 170 #[.bool a,.bool b] w fun e w'=>e = .returned (.int .i64 (pE a b))∧w' = w:=by
 cases a <;> cases b
 all_goals
  go_enter Tryz.func170,Tryz.ntmps170;go_wp2;go_ret
  exact ⟨rfl,rfl⟩
theorem Sl.KM (W:World) (a b c d:Int) (t:TypeId) (ha:bi a) (hb:bi b) (hc:bi c) (hd:bi d) (N:Nat) (hN:W.heap.size = N):Sl (W.alloc (.cells #[.int .i64 a,.int .i64 b,.int .i64 c,.int .i64 d] t)) [a,b,c,d] (some ⟨N,0,none⟩) 4 [N]:=by
 subst hN;exact Sl.Va W [a,b,c,d] t (by intro x hx;simp only [List.mem_cons,List.not_mem_nil,or_false] at hx;rcases hx with rfl | rfl | rfl | rfl <;> assumption) (by unfold maxLen;simp)
def o5 (x y:bH):List Int:=[Lib.compareBytes x.key.data.toList y.key.data.toList,pE x.equal y.equal,Lib.compareBytes x.value.data.toList y.value.data.toList,Lib.compareInt x.al y.al]
theorem aw1 (x y:bH) (cs ds:List Value) (F G:List Nat) (w:World) (h:rd w x cs F) (h':rd w y ds G) :
 Calls Tryz.prog 130 #[.agg cs.toArray,.agg ds.toArray] w fun e w'=>e = .returned (.int .i64 (Qa (o5 x y)))∧Gr w w':=by
 obtain ⟨aw,hF1,xO,xk,zT⟩:=jv h;obtain ⟨jU,ld,vC,rP,uY⟩:=jv h';subst aw jU;subst hF1 ld;have fX:=qj x.key.data.toList y.key.data.toList;have o8:=anp x.equal y.equal;have fc:=qj x.value.data.toList y.value.data.toList;have eN:=BU x.al y.al;go_enter Tryz.func130,Tryz.ntmps130;go_wp2_with fail
 refine nS ((w.alloc (.cells #[.string x.key,.bool x.equal,.string x.value,.int .i64 x.al] 91)).alloc (.cells #[.string y.key,.bool y.equal,.string y.value,.int .i64 y.al] 91)) [0,1,2,3,5,6,7,8,10,11,12,13,15,16,17,18] [4,9,14,19,20,21,22] U' U' H' (aj _) ?_;simp only [cH,List.getElem?_cons_succ,List.getElem?_cons_zero]
 iterate 16
  (apply dR
   case hy =>exact Ab
   simp only [Act.put,pz])
 refine fE ?_;have bu:=aA (aj ((w.alloc (.cells #[.string x.key,.bool x.equal,.string x.value,.int .i64 x.al] 91)).alloc (.cells #[.string y.key,.bool y.equal,.string y.value,.int .i64 y.al] 91)));refine aK rfl (fun K hK=>?_);go_simp;refine (N8 x.key y.key _).mono ?_;rintro e wz ⟨rfl,hw⟩;simp only [hw];clear hw wz;refine hK _ _ bu (fun _=>?_);try simp only [Act.put,pz]
 clear hK K;refine aK rfl (fun K hK=>?_);go_simp;refine (adw x.equal y.equal _).mono ?_;rintro e wz ⟨rfl,hw⟩;simp only [hw];clear hw wz;refine hK _ _ bu (fun _=>?_);try simp only [Act.put,pz]
 clear hK K;refine aK rfl (fun K hK=>?_);go_simp;refine (N8 x.value y.value _).mono ?_;rintro e wz ⟨rfl,hw⟩;simp only [hw];clear hw wz;refine hK _ _ bu (fun _=>?_);try simp only [Act.put,pz]
 clear hK K;refine aK rfl (fun K hK=>?_);go_simp;refine (EI x.al y.al _).mono ?_;rintro e wz ⟨rfl,hw⟩;simp only [hw];clear hw wz;refine hK _ _ bu (fun _=>?_);try simp only [Act.put,pz]
 clear hK K;refine aK rfl (fun K hK=>?_);go_simp;replace bu:=ak bu (.cells #[.int .i64 (Lib.compareBytes x.key.data.toList y.key.data.toList),.int .i64 (pE x.equal y.equal),.int .i64 (Lib.compareBytes x.value.data.toList y.value.data.toList),.int .i64 (Lib.compareInt x.al y.al)] 3);refine hK _ _ bu (fun _=>?_);try simp only [Act.put,pz]
 clear hK K;have hS:=Sl.Sz (Sl.KM ((w.alloc (.cells #[.string x.key,.bool x.equal,.string x.value,.int .i64 x.al] 91)).alloc (.cells #[.string y.key,.bool y.equal,.string y.value,.int .i64 y.al] 91)) _ _ _ _ 3 (bi.small fX) (bi.small o8) (bi.small fc) (bi.small eN) (w.heap.size+2) S');refine aK rfl (fun K hK=>?_);go_simp;refine (Sy _ _ 4 _ _ _ hS rfl S').mono ?_;rintro e wz ⟨rfl,hw⟩;simp only [hw];clear hw wz;refine hK _ _ bu (fun _=>?_);try simp only [Act.put,pz]
 clear hK K;refine aK rfl (fun K hK=>?_);go_simp;refine hK _ _ bu (fun _=>?_);try simp only [Act.put,pz]
 clear hK K;refine dX ?_;go_wp2;go_ret
 exact ⟨rfl,Sh⟩
theorem Xd (x y:bH) (cs ds:List Value) (F G:List Nat) (w:World) (h:rd w x cs F) (h':rd w y ds G) :
 Calls Tryz.prog 130 #[.agg cs.toArray,.agg ds.toArray] w fun e w'=>e = .returned (.int .i64 (Qa (o5 x y)))∧Below w.heap.size w w' :=
 (aw1 x y cs ds F G w h h').mono fun _ _ hh=>⟨hh.1,hh.2.aM⟩
def vJ (x y:bH):Bool:=decide (Qa (o5 x y) < 0)
theorem anr {x y:bH} (h:(x.key.toList == y.key.toList) = false):vJ x y = Op.bytesLess x.key.toList y.key.toList:=by
 have h1:Lib.compareBytes x.key.data.toList y.key.data.toList≠0:=fun e=>by
  exact qu
 unfold vJ o5;simp only [Qa,if_neg h1];exact qt
theorem aiA {x y:bH} (hk:(x.key.toList == y.key.toList) = true) (h:x.equal≠y.equal):vJ x y = y.equal:=by
 have h0:Lib.compareBytes x.key.data.toList y.key.data.toList = 0:=by rw [J5,← ByteArray.toList_eq,← ByteArray.toList_eq];simpa using hk
 unfold vJ o5;simp only [Qa,if_pos h0];cases hx:x.equal <;> cases hy:y.equal <;> simp_all [pE]
theorem aiB {x y:bH} (hk:(x.key.toList == y.key.toList) = true) (hq:x.equal = y.equal) (h:(x.value.toList == y.value.toList) = false):vJ x y = Op.bytesLess x.value.toList y.value.toList:=by
 have h0:Lib.compareBytes x.key.data.toList y.key.data.toList = 0:=by rw [J5,← ByteArray.toList_eq,← ByteArray.toList_eq];simpa using hk
 have h1:Lib.compareBytes x.value.data.toList y.value.data.toList≠0:=fun e=>by
  exact qu
 have h2:pE x.equal y.equal = 0:=by unfold pE;simp [hq]
 unfold vJ o5;simp only [Qa,if_pos h0,if_pos h2,if_neg h1];exact qt
theorem ahL {x y:bH} (hk:(x.key.toList == y.key.toList) = true) (hq:x.equal = y.equal) (h:(x.value.toList == y.value.toList) = true):vJ x y = decide (x.al < y.al):=by
 have h0:Lib.compareBytes x.key.data.toList y.key.data.toList = 0:=by rw [J5,← ByteArray.toList_eq,← ByteArray.toList_eq];simpa using hk
 have h1:Lib.compareBytes x.value.data.toList y.value.data.toList = 0:=by rw [J5,← ByteArray.toList_eq,← ByteArray.toList_eq];simpa using h
 have h2:pE x.equal y.equal = 0:=by unfold pE;simp [hq]
 unfold vJ o5;simp only [Qa,if_pos h0,if_pos h2,if_pos h1];exact zH
theorem YL (x y:bH) (cs ds:List Value) (F G:List Nat) (w:World) (h:rd w x cs F) (h':rd w y ds G) :
 Calls Tryz.prog 140 #[.agg cs.toArray,.agg ds.toArray] w fun e w'=>e = .returned (.bool (vJ x y))∧Below w.heap.size w w':=by
 obtain ⟨aw,hF1,xO,xk,zT⟩:=jv h;obtain ⟨jU,ld,vC,rP,uY⟩:=jv h';subst aw jU;subst hF1 ld;cases h1:(x.key.toList == y.key.toList) with
 | false =>rw [anr h1];exact ux
 | true =>
   by_cases h3:x.equal = y.equal
   ·cases h2:(x.value.toList == y.value.toList) with
    | false =>rw [aiB h1 h3 h2];have h4:(x.equal == y.equal) = true:=(by simp [h3]);exact ux
    | true =>rw [ahL h1 h3 h2];have h4:(x.equal == y.equal) = true:=(by simp [h3]);exact ux
   ·rw [aiA h1 h3];have h4:(x.equal == y.equal) = false:=(by simp [h3]);exact ux
theorem aaF (n a b:Int) (w:World):Calls Tryz.prog 68 #[.int .i64 n,.int .i64 a,.int .i64 b] w fun e w'=>e = .returned (.bool (decide (a≤n)&&decide (n≤b)))∧w' = w:=by
 by_cases h1:a≤n <;> by_cases h2:n≤b
 all_goals
  go_enter Tryz.func68,Tryz.ntmps68;go_wp2;go_ret
  exact ⟨by simp [h1,h2] <;> first | rfl | omega,rfl⟩
theorem Rw (x:ba) (cs:List Value) (F:List Nat) (w:World) (h:rd w x cs F) (kk:(x.key.size:Int)≤1048576) (hl:(x.values.length:Int)≤1048576) (cX:∀v∈x.values,(v.size:Int)≤1048576) :
 Calls Tryz.prog 127 #[.agg cs.toArray] w fun e w'=>e = .returned (.bool (uh x))∧Below w.heap.size w w':=by
 have Eo:=I cX;clear cX;obtain ⟨jy,ji,Bo,aw,qp,ca,fj,kV⟩:=og h;subst aw;clear qp;cases hK:Cm x.key with
 | false =>have HF:=I (aiY hK);have HK:=I hK;clear hK;exact uu
 | true =>
   have HK:=I hK;by_cases fj:1≤x.op∧x.op≤4
   ·by_cases h2:2 < x.op
    ·have hg:=aiZ hK fj h2;obtain ⟨j8,hop2⟩:=fj;by_cases h0:x.values.length = 0
     ·rw [decide_eq_true h0] at hg;have HF:=I hg;have H0:=I h0;clear hK hg h0;go_enter Tryz.func127,Tryz.ntmps127;go_wp2_with fail
      refine (rX x.key _ kk).mono ?_;exact Hh
     ·rw [decide_eq_false h0] at hg;have HF:=I hg;have Yz:((x.values.length:Int) == 0) = false:=(by rw [beq_eq_false_iff_ne];omega);clear hK hg;exact uu
    ·have HI:=I (amx hK fj h2);obtain ⟨j8,hop2⟩:=fj;have h2':x.op≤2:=J;clear hK;go_enter Tryz.func127,Tryz.ntmps127;go_wp2_with fail
     refine (rX x.key _ kk).mono ?_;rw [HK.out];rintro e w2 ⟨rfl,av⟩;obtain ⟨ce,cK⟩:=ay av;have cD:w.heap.size < w2.heap.size:=(by have:=av.size;simp at this;omega);have lV:w2.cell? ⟨w.heap.size,1,none⟩ = some (.int .i64 x.op):=(by rw [ce _ _ S',cell_of_row _ _ _ _ _ _ (heap_alloc_new w _)];rfl);have mA:w2.cell? ⟨w.heap.size,2,none⟩ = some (.slice jy x.values.length ji):=(by rw [ce _ _ S',cell_of_row _ _ _ _ _ _ (heap_alloc_new w _)];rfl);have eB:Below w.heap.size w w2:=bs;clear ce cK;go_wp2_with fail
     refine (aaF x.op 1 4 _).mono ?_;rw [show (decide ((1:Int)≤x.op)&&decide (x.op≤4)) = true by simp [j8,hop2]];rintro e w3 ⟨rfl,hw⟩;simp only [hw];clear hw w3;go_wp2;go_loopw [25] (fun i wr=>∃k:Nat,k≤x.values.length∧i = .int .i64 k∧Hid (∀j,j < k→bB AQ bl x.values j = true)∧wr.cell? ⟨w.heap.size,2,none⟩ = some (.slice jy x.values.length ji)∧Below w.heap.size w wr) (fun i _=>x.values.length - (intOf i).toNat)
     case atStart=>exact ⟨0,Nat.zero_le _,rfl,(fun j hj=>by omega),mA,eB⟩
     case round =>
      obtain ⟨k,hk,rfl,hall,bu,aE⟩:=hrel;have dm:w.heap.size < wr.heap.size:=World.block_lt_of_cell? wr _ bu;by_cases ap:k < x.values.length
      ·obtain rfl | ⟨j,rfl⟩:k = 0∨∃j,k = j+1:=by cases k with | zero=>exact .inl rfl | succ j=>exact .inr ⟨j,rfl⟩
       ·obtain ⟨b,o,ck,Fk,rfl,o9,hbs,hr,bv,hc⟩:=(Sl.ext (w':=wr) (A:=jy) (c:=ji) kV aE).get ap;obtain ⟨aw,su,eQ⟩:=hr;subst aw su;have q0:wr.cell? ⟨b,o+0,none⟩ = some (.string x.values[0]):=(by have:=hc 0 _ rfl;rwa [show o+(0 * bd.size ByteArray+0) = o+0 from by show o+(0 * 1+0) = _;omega] at this);clear hc;simp only [Nat.add_zero] at q0;have cJ:=Eo.out x.values[0] (List.getElem_mem ..);cases h1:AQ x.values[0]
        all_goals
         have hp:=bR (ok:=AQ) (less:=bl) ap;rw [h1] at hp;try simp only [Bool.false_and,Bool.and_false,Bool.and_true,Bool.and_self] at hp
         change bB AQ bl x.values _ = _ at hp;have H1:=I h1
         first
          | have HN:=I (gq hall.out hp)
          | have HF:=I (show uh x = false by rw [HI.out,wU (most:=4) ap hp];simp)
         clear h1 hp;go_wp2_with fail
         refine (xQ x.values[0] _ cJ).mono ?_;rw [H1.out];rintro e wn ⟨rfl,hn⟩;obtain ⟨jz,kz⟩:=ay hn;go_wp2
         first
          | exact ⟨⟨0+1,J,N',HN.out,((ay hn).1 _ _ dm).trans bu,ah aE hn⟩,by simp [intOf];omega⟩
          | (go_ret;exact ⟨by rw [HF.out];rfl,ah aE hn⟩)
          | (go_roundw
             case rel=>exact ⟨0+1,J,N',HN.out,((ay hn).1 _ _ dm).trans bu,ah aE hn⟩
             case measure=>simp [intOf];omega)
       ·obtain ⟨b,o,ck,Fk,rfl,o9,hbs,hr,bv,hc⟩:=(Sl.ext (w':=wr) (A:=jy) (c:=ji) kV aE).get ap;obtain ⟨aw,su,eQ⟩:=hr;subst aw su;have q0:wr.cell? ⟨b,o+(j+1),none⟩ = some (.string x.values[j+1]):=(by have:=hc 0 _ rfl;rwa [show o+((j+1) * bd.size ByteArray+0) = o+(j+1) from by show o+((j+1) * 1+0) = _;omega] at this);clear hc;obtain ⟨b',o',TY,Xw,e,Ht,hbs',cN,zQ,hc'⟩:=Sl.get (Sl.ext (w':=wr) (c:=ji) kV aE) (show j < x.values.length by omega);obtain ⟨jU,abT,hsz2⟩:=cN;subst jU;obtain ⟨rfl,rfl⟩:b' = b∧o' = o:=by simpa using e.symm
        clear e;have p0:wr.cell? ⟨b',o'+j,none⟩ = some (.string x.values[j]):=(by have:=hc' 0 _ rfl;rwa [show o'+(j * bd.size ByteArray+0) = o'+j from by show o'+(j * 1+0) = _;omega] at this);clear hc';have pa:IntKind.i64.wrap (j:Int) = j:=IntWalk.i64_in _ J;have gC:j < x.values.length:=J;have cJ:=Eo.out x.values[j+1] (List.getElem_mem ..);cases h1:AQ x.values[j+1] <;> cases h3:Op.bytesLess x.values[j].toList x.values[j+1].toList
        all_goals
         have hp:=yS (ok:=AQ) (less:=bl) ap;unfold bl at hp;rw [h1,h3] at hp;try simp only [Bool.false_and,Bool.and_false,Bool.and_true,Bool.and_self] at hp
         change bB AQ bl x.values _ = _ at hp;have H1:=I h1
         first
          | have HN:=I (gq hall.out hp)
          | have HF:=I (show uh x = false by rw [HI.out,wU (most:=4) ap hp];simp)
         clear h1 hp;go_wp2_with fail
         refine (xQ x.values[j+1] _ cJ).mono ?_;rw [H1.out];rintro e wn ⟨rfl,hn⟩;obtain ⟨jz,kz⟩:=ay hn;go_wp2
         first
          | exact ⟨⟨j+1+1,J,N',HN.out,((ay hn).1 _ _ dm).trans bu,ah aE hn⟩,by simp [intOf];omega⟩
          | (go_ret;exact ⟨by rw [HF.out];rfl,ah aE hn⟩)
          | (go_roundw
             case rel=>exact ⟨j+1+1,J,N',HN.out,((ay hn).1 _ _ dm).trans bu,ah aE hn⟩
             case measure=>simp [intOf];omega)
      ·have bx:k = x.values.length:=J;subst bx;by_cases hm:(x.values.length:Int)≤4
       ·by_cases nt:1≤x.values.length
        ·have HF:=I (show uh x = true by rw [HI.out,Jy hm hall.out];simp [nt]);exact ue
        ·have HF:=I (show uh x = false by rw [HI.out];simp [nt]);have o0:(x.values.length:Int) < 1:=J;exact ue
       ·have HF:=I (show uh x = false by rw [HI.out,Jz (ok:=AQ) (less:=bl) hm];simp);have o0:(1:Int)≤x.values.length:=J;have hd5:decide ((x.values.length:Int)≤4) = false:=(by simp;omega);exact ue
   ·have HF:=I (amy fj);clear hK;by_cases h1:x.op < 1
    ·exact uu
    ·have SX:1≤x.op:=J;have h4':4 < x.op:=J;have hd4:decide (x.op≤4) = false:=(by simp;omega);exact uu
theorem Rx (x:ba) (cs:List Value) (F:List Nat) (w:World) (h:rd w x cs F) (kk:(x.key.size:Int)≤1048576) (hl:(x.values.length:Int)≤1048576) (cX:∀v∈x.values,(v.size:Int)≤1048576) :
 Calls Tryz.prog 138 #[.agg cs.toArray] w fun e w'=>e = .returned (.bool (uh x))∧Below w.heap.size w w':=by
 have Eo:=I cX;clear cX;obtain ⟨jy,ji,Bo,aw,qp,ca,fj,kV⟩:=og h;subst aw;clear qp;cases hK:Cm x.key with
 | false =>have HF:=I (aiY hK);have HK:=I hK;clear hK;exact uv
 | true =>
   have HK:=I hK;by_cases fj:1≤x.op∧x.op≤4
   ·by_cases h2:2 < x.op
    ·have hg:=aiZ hK fj h2;obtain ⟨j8,hop2⟩:=fj;by_cases h0:x.values.length = 0
     ·rw [decide_eq_true h0] at hg;have HF:=I hg;have H0:=I h0;clear hK hg h0;go_enter Tryz.func138,Tryz.ntmps138;go_wp2_with fail
      refine (qK x.key _ kk).mono ?_;exact Hh
     ·rw [decide_eq_false h0] at hg;have HF:=I hg;have Yz:((x.values.length:Int) == 0) = false:=(by rw [beq_eq_false_iff_ne];omega);clear hK hg;exact uv
    ·have HI:=I (amx hK fj h2);obtain ⟨j8,hop2⟩:=fj;have h2':x.op≤2:=J;clear hK;go_enter Tryz.func138,Tryz.ntmps138;go_wp2_with fail
     refine (qK x.key _ kk).mono ?_;rw [HK.out];rintro e w2 ⟨rfl,av⟩;obtain ⟨ce,cK⟩:=ay av;have cD:w.heap.size < w2.heap.size:=(by have:=av.size;simp at this;omega);have lV:w2.cell? ⟨w.heap.size,1,none⟩ = some (.int .i64 x.op):=(by rw [ce _ _ S',cell_of_row _ _ _ _ _ _ (heap_alloc_new w _)];rfl);have mA:w2.cell? ⟨w.heap.size,2,none⟩ = some (.slice jy x.values.length ji):=(by rw [ce _ _ S',cell_of_row _ _ _ _ _ _ (heap_alloc_new w _)];rfl);have eB:Below w.heap.size w w2:=bs;clear ce cK;by_cases nt:1≤x.values.length
     ·have hm1i:(1:Int)≤x.values.length:=J;by_cases hm:(x.values.length:Int)≤4
      ·go_wp2;go_loopw [3] (fun i wr=>∃k:Nat,k≤x.values.length∧i = .int .i64 k∧Hid (∀j,j < k→bB AQ bl x.values j = true)∧wr.cell? ⟨w.heap.size,2,none⟩ = some (.slice jy x.values.length ji)∧Below w.heap.size w wr) (fun i _=>x.values.length - (intOf i).toNat)
       case atStart=>exact ⟨0,Nat.zero_le _,rfl,(fun j hj=>by omega),mA,eB⟩
       case round =>
        obtain ⟨k,hk,rfl,hall,bu,aE⟩:=hrel;have dm:w.heap.size < wr.heap.size:=World.block_lt_of_cell? wr _ bu;by_cases ap:k < x.values.length
        ·obtain rfl | ⟨j,rfl⟩:k = 0∨∃j,k = j+1:=by cases k with | zero=>exact .inl rfl | succ j=>exact .inr ⟨j,rfl⟩
         ·obtain ⟨b,o,ck,Fk,rfl,o9,hbs,hr,bv,hc⟩:=(Sl.ext (w':=wr) (A:=jy) (c:=ji) kV aE).get ap;obtain ⟨aw,su,eQ⟩:=hr;subst aw su;have q0:wr.cell? ⟨b,o+0,none⟩ = some (.string x.values[0]):=(by have:=hc 0 _ rfl;rwa [show o+(0 * bd.size ByteArray+0) = o+0 from by show o+(0 * 1+0) = _;omega] at this);clear hc;simp only [Nat.add_zero] at q0;have cJ:=Eo.out x.values[0] (List.getElem_mem ..);cases h1:AQ x.values[0]
          all_goals
           have hp:=bR (ok:=AQ) (less:=bl) ap;rw [h1] at hp;try simp only [Bool.false_and,Bool.and_false,Bool.and_true,Bool.and_self] at hp
           change bB AQ bl x.values _ = _ at hp;have H1:=I h1
           first
            | have HN:=I (gq hall.out hp)
            | have HF:=I (show uh x = false by rw [HI.out,wU (most:=4) ap hp];simp)
           clear h1 hp;go_wp2_with fail
           refine aF _ U' U' (aj _) ?_
           repeat (first
            | (apply aG
               case hw=>rfl
               simp only [Act.put,pz])
            | (apply aH
               case hw=>rfl
               case h =>
                intro wq hq;have dc:=(aB hq).1;have lJ:=(aB hq).2;go_simp
                first
                 | exact ⟨hq,rfl⟩
                 | exact ⟨aQ hq _,rfl⟩
                 | ((refine (vH x.values[0] _ cJ).mono ?_;rw [H1.out];rintro e w2 ⟨rfl,av⟩;exact ⟨rfl,aI hq av⟩))
                 | (simp only [↓IntWalk.iteOmega];exact ⟨hq,rfl⟩)
               simp only [Act.put,pz]))
           refine aN ?_;intro wn hn;replace hn:=hn.out;go_wp2
           first
            | exact ⟨⟨0+1,J,N',HN.out,((ay hn).1 _ _ dm).trans bu,ah aE hn⟩,by simp [intOf];omega⟩
            | (go_ret;exact ⟨by rw [HF.out];rfl,ah aE hn⟩)
            | (go_roundw
               case rel=>exact ⟨0+1,J,N',HN.out,((ay hn).1 _ _ dm).trans bu,ah aE hn⟩
               case measure=>simp [intOf];omega)
         ·obtain ⟨b,o,ck,Fk,rfl,o9,hbs,hr,bv,hc⟩:=(Sl.ext (w':=wr) (A:=jy) (c:=ji) kV aE).get ap;obtain ⟨aw,su,eQ⟩:=hr;subst aw su;have q0:wr.cell? ⟨b,o+(j+1),none⟩ = some (.string x.values[j+1]):=(by have:=hc 0 _ rfl;rwa [show o+((j+1) * bd.size ByteArray+0) = o+(j+1) from by show o+((j+1) * 1+0) = _;omega] at this);clear hc;obtain ⟨b',o',TY,Xw,e,Ht,hbs',cN,zQ,hc'⟩:=Sl.get (Sl.ext (w':=wr) (c:=ji) kV aE) (show j < x.values.length by omega);obtain ⟨jU,abT,hsz2⟩:=cN;subst jU;obtain ⟨rfl,rfl⟩:b' = b∧o' = o:=by simpa using e.symm
          clear e;have p0:wr.cell? ⟨b',o'+j,none⟩ = some (.string x.values[j]):=(by have:=hc' 0 _ rfl;rwa [show o'+(j * bd.size ByteArray+0) = o'+j from by show o'+(j * 1+0) = _;omega] at this);clear hc';have pa:IntKind.i64.wrap (j:Int) = j:=IntWalk.i64_in _ J;have gC:j < x.values.length:=J;have cJ:=Eo.out x.values[j+1] (List.getElem_mem ..);cases h1:AQ x.values[j+1] <;> cases h3:Op.bytesLess x.values[j].toList x.values[j+1].toList
          all_goals
           have hp:=yS (ok:=AQ) (less:=bl) ap;unfold bl at hp;rw [h1,h3] at hp;try simp only [Bool.false_and,Bool.and_false,Bool.and_true,Bool.and_self] at hp
           change bB AQ bl x.values _ = _ at hp;have H1:=I h1
           first
            | have HN:=I (gq hall.out hp)
            | have HF:=I (show uh x = false by rw [HI.out,wU (most:=4) ap hp];simp)
           clear h1 hp;go_wp2_with fail
           refine aF _ U' U' (aj _) ?_
           repeat (first
            | (apply aG
               case hw=>rfl
               simp only [Act.put,pz])
            | (apply aH
               case hw=>rfl
               case h =>
                intro wq hq;have dc:=(aB hq).1;have lJ:=(aB hq).2;go_simp
                first
                 | exact ⟨hq,rfl⟩
                 | exact ⟨aQ hq _,rfl⟩
                 | ((refine (vH x.values[j+1] _ cJ).mono ?_;rw [H1.out];rintro e w2 ⟨rfl,av⟩;exact ⟨rfl,aI hq av⟩))
                 | (simp only [↓IntWalk.iteOmega];exact ⟨hq,rfl⟩)
               simp only [Act.put,pz]))
           refine aN ?_;intro wn hn;replace hn:=hn.out;go_wp2
           first
            | exact ⟨⟨j+1+1,J,N',HN.out,((ay hn).1 _ _ dm).trans bu,ah aE hn⟩,by simp [intOf];omega⟩
            | (go_ret;exact ⟨by rw [HF.out];rfl,ah aE hn⟩)
            | (go_roundw
               case rel=>exact ⟨j+1+1,J,N',HN.out,((ay hn).1 _ _ dm).trans bu,ah aE hn⟩
               case measure=>simp [intOf];omega)
        ·have bx:k = x.values.length:=J;subst bx;have HF:=I (show uh x = true by rw [HI.out,Jy hm hall.out];simp [nt]);exact ue
      ·have HF:=I (show uh x = false by rw [HI.out,Jz (ok:=AQ) (less:=bl) hm];simp);have hd5:decide ((x.values.length:Int)≤4) = false:=(by simp;omega);go_wp2;go_ret
       exact ⟨by rw [HF.out];rfl,eB⟩
     ·have HF:=I (show uh x = false by rw [HI.out];simp [nt]);have o0:(x.values.length:Int) < 1:=J;go_wp2;go_ret
      exact ⟨by rw [HF.out];rfl,eB⟩
   ·have HF:=I (amy fj);clear hK;by_cases h1:x.op < 1
    ·exact uv
    ·have SX:1≤x.op:=J;have h4':4 < x.op:=J;have hd4:decide (x.op≤4) = false:=(by simp;omega);exact uv
end Go.Proofs.YtjahcnjmjahbaaaGreat
