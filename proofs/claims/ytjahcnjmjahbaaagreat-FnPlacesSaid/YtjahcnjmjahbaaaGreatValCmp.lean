/- cmp.Compare and slices.Compare of strings. No condition. -/
import Derived.Test.YtjahcnjmjahbaaaGreatCmp2
import Derived.Lib.SlicesCompact
namespace Go.Proofs.YtjahcnjmjahbaaaGreat
open Go.ChangeShapes Go.WideShapes Go.ChangeAt Go.RowKit
set_option linter.unusedVariables false
set_option linter.unusedSimpArgs false
set_option maxHeartbeats 1000000
set_option maxRecDepth 100000
theorem XY (a b:List UInt8) (h1:Op.bytesLess a b = true):Lib.compareBytes a b = -1:=by
 have h3:=qj a b;have h4:=(Wx a b).2 h1;omega
theorem PL:∀a b:List UInt8,Lib.compareBytes b a = - Lib.compareBytes a b
 | [],[]=>rfl
 | [],_ :: _=>rfl
 | _ :: _,[]=>rfl
 | x :: a,y :: b=>by
   have ih:=PL a b;unfold Lib.compareBytes;by_cases h1:x < y
   ·have h2:¬y < x:=fun h=>absurd (UInt8.lt_trans h1 h) (UInt8.lt_irrefl _);rw [if_pos h1,if_neg h2,if_pos h1];rfl
   ·by_cases h2:y < x
    ·rw [if_pos h2,if_neg h1,if_pos h2]
    ·rw [if_neg h1,if_neg h2,if_neg h2,if_neg h1];exact ih
theorem Yb (a b:ByteArray) (w:World):Calls Tryz.prog 158 #[.string a,.string b] w fun e w'=>e = .returned (.int .i64 (Lib.compareBytes a.data.toList b.data.toList))∧w' = w:=by
 have haa:(a.toList == a.toList) = true:=by simp
 have fR:(b.toList == b.toList) = true:=by simp
 cases h1:Op.bytesLess a.toList b.toList with
 | true =>have hf:=XY _ _ h1;rw [ByteArray.toList_eq,ByteArray.toList_eq] at hf;rw [hf];exact Bx
 | false =>
   cases h2:Op.bytesLess b.toList a.toList with
   | true =>
     have hf:=XY _ _ h2;rw [PL,ByteArray.toList_eq,ByteArray.toList_eq] at hf;have h9:(a.toList == b.toList) = false:=by rw [beq_eq_false_iff_ne];intro e;rw [ByteArray.toList_eq,ByteArray.toList_eq,← J5] at e;omega
     rw [show Lib.compareBytes a.data.toList b.data.toList = 1 by omega];exact Bx
   | false =>
     have h3:¬Lib.compareBytes a.toList b.toList < 0:=fun h=>by rw [Wx,h1] at h;cases h
     have h4:¬Lib.compareBytes b.toList a.toList < 0:=fun h=>by rw [Wx,h2] at h;cases h
     rw [PL] at h4;rw [ByteArray.toList_eq,ByteArray.toList_eq] at h3 h4;have h8:Lib.compareBytes a.data.toList b.data.toList = 0:=O;have h9:(a.toList == b.toList) = true:=by rw [beq_iff_eq,ByteArray.toList_eq,ByteArray.toList_eq];exact (J5 _ _).1 h8
     rw [h8];exact Bx
def qW:List ByteArray→List ByteArray→Int
 | [],[]=>0
 | [],_ :: _=>-1
 | _ :: _,[]=>1
 | x :: xs,y :: ys=>if Lib.compareBytes x.data.toList y.data.toList = 0 then qW xs ys else Lib.compareBytes x.data.toList y.data.toList
theorem XZ {xs ys:List ByteArray} {k:Nat} (h:k < xs.length) (h':k < ys.length):qW (xs.drop k) (ys.drop k) = if Lib.compareBytes xs[k].data.toList ys[k].data.toList = 0 then qW (xs.drop (k+1)) (ys.drop (k+1)) else Lib.compareBytes xs[k].data.toList ys[k].data.toList:=by
 rw [← List.getElem_cons_drop h,← List.getElem_cons_drop h'];rfl
theorem X9 {xs ys:List ByteArray} {k:Nat} (h:k < xs.length) (h':ys.length≤k):qW (xs.drop k) (ys.drop k) = 1:=by
 rw [← List.getElem_cons_drop h,List.drop_eq_nil_of_le h'];rfl
theorem X' {xs ys:List ByteArray} {k:Nat} (h:xs.length≤k):qW (xs.drop k) (ys.drop k) = if k < ys.length then -1 else 0:=by
 rw [List.drop_eq_nil_of_le h];by_cases h':k < ys.length
 ·rw [if_pos h',← List.getElem_cons_drop h'];rfl
 ·rw [if_neg h',List.drop_eq_nil_of_le O];rfl
theorem ZR:∀xs ys:List ByteArray,-1≤qW xs ys∧qW xs ys≤1
 | [],[]=>by simp [qW]
 | [],_ :: _=>by simp [qW]
 | _ :: _,[]=>by simp [qW]
 | x :: xs,y :: ys=>by
   have h1:=ZR xs ys;have h2:=qj x.data.toList y.data.toList;unfold qW;split <;> omega
theorem aeC (xs ys:List ByteArray) (A B:Option Addr) (n m c d:Nat) (F G:List Nat) (w:World) (h:Sl w xs A c F) (h':Sl w ys B d G) (hn:n = xs.length) (hm:m = ys.length) (hl:(xs.length:Int)≤1048576) (pt:(ys.length:Int)≤1048576) :
 Calls Tryz.prog 200 #[.slice A n c,.slice B m d] w fun e w'=>e = .returned (.int .i64 (qW xs ys))∧w' = w:=by
 subst hn hm;go_enter Tryz.func200,Tryz.ntmps200;go_wp2_with fail
 go_loop [11] (fun i=>∃k:Nat,k≤xs.length∧i = .int .i64 k∧Hid (k≤ys.length)∧Hid (qW xs ys = qW (xs.drop k) (ys.drop k))) (fun i=>xs.length - (intOf i).toNat)
 case atStart=>exact ⟨0,Nat.zero_le _,rfl,Nat.zero_le _,rfl⟩
 case round =>
  obtain ⟨k,hk,rfl,HK,HO⟩:=hrel;have hky:=HK.out;by_cases ap:k < xs.length
  ·obtain ⟨b,o,ck,Fk,rfl,o9,hbs,hr,br,hc⟩:=h.get ap;obtain ⟨ax,su,gv⟩:=hr;subst ax su;have q0:w.cell? ⟨b,o+k,none⟩ = some (.string xs[k]):=(by have:=hc 0 _ rfl;rwa [show o+(k * bk.size ByteArray+0) = o+k from by show o+(k * 1+0) = _;omega] at this);clear hc;by_cases hly:k < ys.length
   ·obtain ⟨b2,o2,ck2,Fk2,rfl,ayO,uO,dx,ld,cb⟩:=h'.get hly;obtain ⟨ax,su,hsz2⟩:=dx;subst ax su;have p0:w.cell? ⟨b2,o2+k,none⟩ = some (.string ys[k]):=(by have:=cb 0 _ rfl;rwa [show o2+(k * bk.size ByteArray+0) = o2+k from by show o2+(k * 1+0) = _;omega] at this);clear cb;have hd:=XZ ap hly;have hC:=Yb xs[k] ys[k] w;generalize hz:Lib.compareBytes xs[k].data.toList ys[k].data.toList = z at hd hC;by_cases h0:z = 0
    ·rw [if_pos h0] at hd;have HN:=I (HO.out.trans hd);have HC:=I hC;clear hd hC hz;subst h0;go_wp2_with (go_at_call 158;refine HC.out.mono ?_;rintro e w2 ⟨rfl,rfl⟩)
     exact ⟨⟨k+1,O,N',by show k+1≤ys.length;omega,HN.out⟩,by simp [intOf];omega⟩
    ·rw [if_neg h0] at hd;have HN:=I (HO.out.trans hd);have HC:=I hC;have ev:(z == 0) = false:=(by simp [h0]);have bm:(z != 0) = true:=(by simp [h0]);clear hd hC hz;go_wp2_with (go_at_call 158;refine HC.out.mono ?_;rintro e w2 ⟨rfl,rfl⟩)
     go_ret
     exact ⟨by rw [HN.out];rfl,rfl⟩
   ·have HN:=I (HO.out.trans (X9 ap O));have oA:(ys.length:Int)≤k:=O;exact rT
  ·have bz:k = xs.length:=O;subst bz;have he:=HO.out.trans (X' (Nat.le_refl _));by_cases hly:xs.length < ys.length
   ·rw [if_pos hly] at he;have HN:=I he;clear he;have R6:(xs.length:Int) < ys.length:=O;exact rT
   ·rw [if_neg hly] at he;have HN:=I he;clear he;have R6:¬(xs.length:Int) < ys.length:=O;exact rT
def qr (a b:Bool):Int:=if a == b then 0 else if b then -1 else 1
theorem anp (a b:Bool):-1≤qr a b∧qr a b≤1:=by cases a <;> cases b <;> decide
theorem adw (a b:Bool) (w:World):Calls Tryz.prog 170 #[.bool a,.bool b] w fun e w'=>e = .returned (.int .i64 (qr a b))∧w' = w:=by
 cases a <;> cases b
 all_goals
  go_enter Tryz.func170,Tryz.ntmps170;go_wp2;go_ret
  exact ⟨rfl,rfl⟩
theorem Sl.Ma (W:World) (a b c d:Int) (t:TypeId) (ha:bv a) (hb:bv b) (hc:bv c) (hd:bv d) (N:Nat) (hN:W.heap.size = N):Sl (W.alloc (.cells #[.int .i64 a,.int .i64 b,.int .i64 c,.int .i64 d] t)) [a,b,c,d] (some ⟨N,0,none⟩) 4 [N]:=by
 subst hN;exact Sl.Va W [a,b,c,d] t (by intro x hx;simp only [List.mem_cons,List.not_mem_nil,or_false] at hx;rcases hx with rfl | rfl | rfl | rfl <;> assumption) (by unfold maxLen;simp)
def po (x y:bH):List Int:=[Lib.compareBytes x.key.data.toList y.key.data.toList,qr x.equal y.equal,Lib.compareBytes x.value.data.toList y.value.data.toList,Lib.compareInt x.an y.an]
theorem aw1 (x y:bH) (cs ds:List Value) (F G:List Nat) (w:World) (h:rd w x cs F) (h':rd w y ds G) :
 Calls Tryz.prog 130 #[.agg cs.toArray,.agg ds.toArray] w fun e w'=>e = .returned (.int .i64 (Qa (po x y)))∧Gr w w':=by
 obtain ⟨ax,hF1,xO,xk,zT⟩:=jv h;obtain ⟨jU,lH,vC,rP,uY⟩:=jv h';subst ax jU;subst hF1 lH;have dc:=qj x.key.data.toList y.key.data.toList;have pr:=anp x.equal y.equal;have dx:=qj x.value.data.toList y.value.data.toList;have f':=BU x.an y.an;go_enter Tryz.func130,Tryz.ntmps130;go_wp2_with fail
 refine nS ((w.alloc (.cells #[.string x.key,.bool x.equal,.string x.value,.int .i64 x.an] 91)).alloc (.cells #[.string y.key,.bool y.equal,.string y.value,.int .i64 y.an] 91)) [0,1,2,3,5,6,7,8,10,11,12,13,15,16,17,18] [4,9,14,19,20,21,22] U' U' H' (aj _) ?_;simp only [cR,List.getElem?_cons_succ,List.getElem?_cons_zero]
 iterate 16
  (apply dR
   case hy =>exact rK
   simp only [Act.put,pz])
 refine fE ?_;have bc:=aA (aj ((w.alloc (.cells #[.string x.key,.bool x.equal,.string x.value,.int .i64 x.an] 91)).alloc (.cells #[.string y.key,.bool y.equal,.string y.value,.int .i64 y.an] 91)));refine aK rfl (fun K hK=>?_);go_simp;refine (N8 x.key y.key _).mono ?_;rintro e wz ⟨rfl,hw⟩;simp only [hw];clear hw wz;refine hK _ _ bc (fun _=>?_);try simp only [Act.put,pz]
 clear hK K;refine aK rfl (fun K hK=>?_);go_simp;refine (adw x.equal y.equal _).mono ?_;rintro e wz ⟨rfl,hw⟩;simp only [hw];clear hw wz;refine hK _ _ bc (fun _=>?_);try simp only [Act.put,pz]
 clear hK K;refine aK rfl (fun K hK=>?_);go_simp;refine (N8 x.value y.value _).mono ?_;rintro e wz ⟨rfl,hw⟩;simp only [hw];clear hw wz;refine hK _ _ bc (fun _=>?_);try simp only [Act.put,pz]
 clear hK K;refine aK rfl (fun K hK=>?_);go_simp;refine (EI x.an y.an _).mono ?_;rintro e wz ⟨rfl,hw⟩;simp only [hw];clear hw wz;refine hK _ _ bc (fun _=>?_);try simp only [Act.put,pz]
 clear hK K;refine aK rfl (fun K hK=>?_);go_simp;replace bc:=ak bc (.cells #[.int .i64 (Lib.compareBytes x.key.data.toList y.key.data.toList),.int .i64 (qr x.equal y.equal),.int .i64 (Lib.compareBytes x.value.data.toList y.value.data.toList),.int .i64 (Lib.compareInt x.an y.an)] 3);refine hK _ _ bc (fun _=>?_);try simp only [Act.put,pz]
 clear hK K;have hS:=Sl.PJ (Sl.Ma ((w.alloc (.cells #[.string x.key,.bool x.equal,.string x.value,.int .i64 x.an] 91)).alloc (.cells #[.string y.key,.bool y.equal,.string y.value,.int .i64 y.an] 91)) _ _ _ _ 3 (bv.small dc) (bv.small pr) (bv.small dx) (bv.small f') (w.heap.size+2) S');refine aK rfl (fun K hK=>?_);go_simp;refine (L9 _ _ 4 _ _ _ hS rfl S').mono ?_;rintro e wz ⟨rfl,hw⟩;simp only [hw];clear hw wz;refine hK _ _ bc (fun _=>?_);try simp only [Act.put,pz]
 clear hK K;refine aK rfl (fun K hK=>?_);go_simp;refine hK _ _ bc (fun _=>?_);try simp only [Act.put,pz]
 clear hK K;refine dX ?_;go_wp2;go_ret
 exact ⟨rfl,RT⟩
theorem Xd (x y:bH) (cs ds:List Value) (F G:List Nat) (w:World) (h:rd w x cs F) (h':rd w y ds G) :
 Calls Tryz.prog 130 #[.agg cs.toArray,.agg ds.toArray] w fun e w'=>e = .returned (.int .i64 (Qa (po x y)))∧Below w.heap.size w w' :=
 (aw1 x y cs ds F G w h h').mono fun _ _ hh=>⟨hh.1,hh.2.aL⟩
def vJ (x y:bH):Bool:=decide (Qa (po x y) < 0)
theorem anr {x y:bH} (h:(x.key.toList == y.key.toList) = false):vJ x y = Op.bytesLess x.key.toList y.key.toList:=by
 have h1:Lib.compareBytes x.key.data.toList y.key.data.toList≠0:=fun e=>by
  exact rN
 unfold vJ po;simp only [Qa,if_neg h1];exact rL
theorem aiA {x y:bH} (hk:(x.key.toList == y.key.toList) = true) (h:x.equal≠y.equal):vJ x y = y.equal:=by
 have h0:Lib.compareBytes x.key.data.toList y.key.data.toList = 0:=by rw [J5,← ByteArray.toList_eq,← ByteArray.toList_eq];simpa using hk
 unfold vJ po;simp only [Qa,if_pos h0];cases hx:x.equal <;> cases hy:y.equal <;> simp_all [qr]
theorem aiB {x y:bH} (hk:(x.key.toList == y.key.toList) = true) (hq:x.equal = y.equal) (h:(x.value.toList == y.value.toList) = false):vJ x y = Op.bytesLess x.value.toList y.value.toList:=by
 have h0:Lib.compareBytes x.key.data.toList y.key.data.toList = 0:=by rw [J5,← ByteArray.toList_eq,← ByteArray.toList_eq];simpa using hk
 have h1:Lib.compareBytes x.value.data.toList y.value.data.toList≠0:=fun e=>by
  exact rN
 have h2:qr x.equal y.equal = 0:=by unfold qr;simp [hq]
 unfold vJ po;simp only [Qa,if_pos h0,if_pos h2,if_neg h1];exact rL
theorem ahL {x y:bH} (hk:(x.key.toList == y.key.toList) = true) (hq:x.equal = y.equal) (h:(x.value.toList == y.value.toList) = true):vJ x y = decide (x.an < y.an):=by
 have h0:Lib.compareBytes x.key.data.toList y.key.data.toList = 0:=by rw [J5,← ByteArray.toList_eq,← ByteArray.toList_eq];simpa using hk
 have h1:Lib.compareBytes x.value.data.toList y.value.data.toList = 0:=by rw [J5,← ByteArray.toList_eq,← ByteArray.toList_eq];simpa using h
 have h2:qr x.equal y.equal = 0:=by unfold qr;simp [hq]
 unfold vJ po;simp only [Qa,if_pos h0,if_pos h2,if_pos h1];exact Bp
theorem W2 (x y:bH) (cs ds:List Value) (F G:List Nat) (w:World) (h:rd w x cs F) (h':rd w y ds G) :
 Calls Tryz.prog 140 #[.agg cs.toArray,.agg ds.toArray] w fun e w'=>e = .returned (.bool (vJ x y))∧Below w.heap.size w w':=by
 obtain ⟨ax,hF1,xO,xk,zT⟩:=jv h;obtain ⟨jU,lH,vC,rP,uY⟩:=jv h';subst ax jU;subst hF1 lH;cases h1:(x.key.toList == y.key.toList) with
 | false =>rw [anr h1];exact vz
 | true =>
   by_cases h3:x.equal = y.equal
   ·cases h2:(x.value.toList == y.value.toList) with
    | false =>rw [aiB h1 h3 h2];have h4:(x.equal == y.equal) = true:=(by simp [h3]);exact vz
    | true =>rw [ahL h1 h3 h2];have h4:(x.equal == y.equal) = true:=(by simp [h3]);exact vz
   ·rw [aiA h1 h3];have h4:(x.equal == y.equal) = false:=(by simp [h3]);exact vz
def blt (x y:ByteArray):Bool:=Op.bytesLess x.toList y.toList
theorem CF:tF blt:=⟨fun x=>Ek _,fun x y z=>CD _ _ _,fun x y h1 h2=>Ce (by rw [beq_iff_eq];exact El _ _ h1 h2)⟩
def gN (xs:List ByteArray):List ByteArray:=ey blt [] xs
theorem aAP (xs:List ByteArray):(gN xs).length≤xs.length:=by have:=zl blt xs [];unfold gN;simpa using this
theorem aA4 {xs:List ByteArray} {z:ByteArray} (h:z∈gN xs):z∈xs:=by
 rcases (EV CF z xs []).1 h with h | h
 ·cases h
 ·exact h
theorem aB3 (xs:List ByteArray):kL ByteArray.size (gN xs)≤kL ByteArray.size xs:=by
 have h:=EX ByteArray.size blt xs [];have hl:=zl blt xs [];unfold gN kL;exact BA
def W9 (x y:bj):List Int:=[Lib.compareBytes x.key.data.toList y.key.data.toList,Lib.compareInt x.op y.op,qW x.values y.values]
def nD (x y:bj):Bool:=decide (Qa (W9 x y) < 0)
theorem ayN (x y:bj) (cs ds:List Value) (F G:List Nat) (w:World) (h:rd w x cs F) (h':rd w y ds G) (hl:(x.values.length:Int)≤1048576) (pt:(y.values.length:Int)≤1048576) :
 Calls Tryz.prog 169 #[.agg cs.toArray,.agg ds.toArray] w fun e w'=>e = .returned (.int .i64 (Qa (W9 x y)))∧Gr w w':=by
 obtain ⟨pX,pY,KG,ax,hF1,xO,iZ,wO⟩:=og h;obtain ⟨qO,qP,KL,jU,lH,vC,hop2,zS⟩:=og h';subst ax jU;subst hF1 lH;have dc:=qj x.key.data.toList y.key.data.toList;have dx:=BU x.op y.op;have f':=ZR x.values y.values;go_enter Tryz.func169,Tryz.ntmps169;go_wp2_with fail
 refine nS ((w.alloc (.cells #[.string x.key,.int .i64 x.op,.slice pX x.values.length pY] 89)).alloc (.cells #[.string y.key,.int .i64 y.op,.slice qO y.values.length qP] 89)) [0,1,2,3,5,6,7,8,10,11,12,13] [4,9,14,15,16,17] U' U' H' (aj _) ?_;simp only [cR,List.getElem?_cons_succ,List.getElem?_cons_zero]
 iterate 12
  (apply dR
   case hy =>exact rK
   simp only [Act.put,pz])
 refine fE ?_;have bc:=aA (aj ((w.alloc (.cells #[.string x.key,.int .i64 x.op,.slice pX x.values.length pY] 89)).alloc (.cells #[.string y.key,.int .i64 y.op,.slice qO y.values.length qP] 89)));refine aK rfl (fun K hK=>?_);go_simp;refine (N8 x.key y.key _).mono ?_;rintro e wz ⟨rfl,hw⟩;simp only [hw];clear hw wz;refine hK _ _ bc (fun _=>?_);try simp only [Act.put,pz]
 clear hK K;refine aK rfl (fun K hK=>?_);go_simp;refine (EI x.op y.op _).mono ?_;rintro e wz ⟨rfl,hw⟩;simp only [hw];clear hw wz;refine hK _ _ bc (fun _=>?_);try simp only [Act.put,pz]
 clear hK K;have lI:=ah (ak (ak (aj w) (.cells #[.string x.key,.int .i64 x.op,.slice pX x.values.length pY] 89)) (.cells #[.string y.key,.int .i64 y.op,.slice qO y.values.length qP] 89)) bc;refine aK rfl (fun K hK=>?_);go_simp;refine (aeC x.values y.values _ _ _ _ _ _ _ _ _ (wO.ext lI) (zS.ext lI) rfl rfl hl pt).mono ?_;rintro e wz ⟨rfl,hw⟩;simp only [hw];clear hw wz;refine hK _ _ bc (fun _=>?_);try simp only [Act.put,pz]
 clear hK K;refine aK rfl (fun K hK=>?_);go_simp;replace bc:=ak bc (.cells #[.int .i64 (Lib.compareBytes x.key.data.toList y.key.data.toList),.int .i64 (Lib.compareInt x.op y.op),.int .i64 (qW x.values y.values)] 3);refine hK _ _ bc (fun _=>?_);try simp only [Act.put,pz]
 clear hK K;have hS:=Sl.PJ (Sl.xT ((w.alloc (.cells #[.string x.key,.int .i64 x.op,.slice pX x.values.length pY] 89)).alloc (.cells #[.string y.key,.int .i64 y.op,.slice qO y.values.length qP] 89)) _ _ _ 3 (bv.small dc) (bv.small dx) (bv.small f') (w.heap.size+2) S');refine aK rfl (fun K hK=>?_);go_simp;refine (L9 _ _ 3 _ _ _ hS rfl S').mono ?_;rintro e wz ⟨rfl,hw⟩;simp only [hw];clear hw wz;refine hK _ _ bc (fun _=>?_);try simp only [Act.put,pz]
 clear hK K;refine aK rfl (fun K hK=>?_);go_simp;refine hK _ _ bc (fun _=>?_);try simp only [Act.put,pz]
 clear hK K;refine dX ?_;go_wp2;go_ret
 exact ⟨rfl,RT⟩
theorem UA (x y:bj) (cs ds:List Value) (F G:List Nat) (w:World) (h:rd w x cs F) (h':rd w y ds G) (hl:(x.values.length:Int)≤1048576) (pt:(y.values.length:Int)≤1048576) :
 Calls Tryz.prog 169 #[.agg cs.toArray,.agg ds.toArray] w fun e w'=>e = .returned (.int .i64 (Qa (W9 x y)))∧Below w.heap.size w w' :=
 (ayN x y cs ds F G w h h' hl pt).mono fun _ _ hh=>⟨hh.1,hh.2.aL⟩
theorem ail (x y:bj) (cs ds:List Value) (F G:List Nat) (w:World) (h:rd w x cs F) (h':rd w y ds G) (hl:(x.values.length:Int)≤1048576) (pt:(y.values.length:Int)≤1048576) :
 Calls Tryz.prog 128 #[.agg cs.toArray,.agg ds.toArray] w fun e w'=>e = .returned (.bool (nD x y))∧Below w.heap.size w w':=by
 have hC:∀wq,Below w.heap.size w wq→Calls Tryz.prog 169 #[.agg cs.toArray,.agg ds.toArray] wq fun e w'=>e = .returned (.int .i64 (Qa (W9 x y)))∧Below wq.heap.size wq w' :=
  fun wq hq=>UA x y cs ds F G wq (bk.frame h (fun b ei=>hq.block b (bk.lt h b ei)) hq.size) (bk.frame h' (fun b ei=>hq.block b (bk.lt h' b ei)) hq.size) hl pt
 have hz:nD x y = decide (Qa (W9 x y) < 0):=rfl;generalize Qa (W9 x y) = z at hC hz;rw [hz];clear hz;obtain ⟨pX,pY,KG,ax,hF1,xO,iZ,wO⟩:=og h;obtain ⟨qO,qP,KL,jU,lH,vC,hop2,zS⟩:=og h';subst ax jU;have HC:=I hC;clear hC;go_enter Tryz.func128,Tryz.ntmps128;go_wp2_with fail
 refine (HC.out _ bu).mono ?_;rintro e w2 ⟨rfl,ao⟩;go_wp2;go_ret
 exact ⟨rfl,bu⟩
theorem Gj {P:Program} {C:World→Prop} {v:Value} {r:Result Next} {w:World} (e:r = .ok (.value v) w) (h:C w):fV P C v r:=by subst e;exact ⟨h,rfl⟩
theorem Y2 (x y:UInt8):x < y↔x.toNat < y.toNat:=UInt8.lt_iff_toNat_lt
theorem DD {x y:UInt8} (h1:¬x < y) (h2:¬y < x):x = y:=by
 rw [Y2] at h1 h2;exact UInt8.toNat_inj.1 O
theorem GK:∀a b:List UInt8,Lib.compareBytes a b = 0↔a = b
 | [],[]=>by simp [Lib.compareBytes]
 | [],_ :: _=>by simp [Lib.compareBytes]
 | _ :: _,[]=>by simp [Lib.compareBytes]
 | x :: a,y :: b=>by
   have ih:=GK a b;unfold Lib.compareBytes;by_cases h1:x < y
   ·rw [if_pos h1];have:x≠y:=fun e=>by subst e;rw [Y2] at h1;omega
    simp [this]
   ·rw [if_neg h1];by_cases h2:y < x
    ·rw [if_pos h2];have:x≠y:=fun e=>by subst e;rw [Y2] at h2;omega
     simp [this]
    ·rw [if_neg h2,ih,DD h1 h2];simp
theorem Ls:∀a b:List UInt8,Lib.compareBytes b a = - Lib.compareBytes a b
 | [],[]=>by simp [Lib.compareBytes]
 | [],_ :: _=>by simp [Lib.compareBytes]
 | _ :: _,[]=>by simp [Lib.compareBytes]
 | x :: a,y :: b=>by
   have ih:=Ls a b;unfold Lib.compareBytes;by_cases h1:x < y
   ·have h2:¬y < x:=(by rw [Y2] at *;omega);rw [if_pos h1,if_neg h2,if_pos h1];rfl
   ·by_cases h2:y < x
    ·rw [if_pos h2,if_neg h1,if_pos h2]
    ·rw [if_neg h2,if_neg h1,if_neg h1,if_neg h2,ih]
theorem aeM (a b:Int):Lib.compareInt a b = 0↔a = b:=by
 unfold Lib.compareInt;split
 ·omega
 ·split <;> omega
theorem aeN (a b:Int):Lib.compareInt b a = - Lib.compareInt a b:=by
 unfold Lib.compareInt;repeat' split
 all_goals omega
theorem ahr {a b:ByteArray} (h:a.data.toList = b.data.toList):a = b:=by cases a;cases b;simp_all
theorem acr:∀xs ys:List ByteArray,qW xs ys = 0↔xs = ys
 | [],[]=>by simp [qW]
 | [],_ :: _=>by simp [qW]
 | _ :: _,[]=>by simp [qW]
 | x :: xs,y :: ys=>by
   have ih:=acr xs ys;unfold qW;by_cases h:Lib.compareBytes x.data.toList y.data.toList = 0
   ·rw [if_pos h,ih,ahr ((GK _ _).1 h)];simp
   ·rw [if_neg h];have:x≠y:=fun e=>h (by rw [e];exact (GK _ _).2 rfl);simp [this,h]
theorem acs:∀xs ys:List ByteArray,qW ys xs = - qW xs ys
 | [],[]=>by simp [qW]
 | [],_ :: _=>by simp [qW]
 | _ :: _,[]=>by simp [qW]
 | x :: xs,y :: ys=>by
   have ih:=acs xs ys;have ha:=Ls x.data.toList y.data.toList;unfold qW;by_cases h:Lib.compareBytes x.data.toList y.data.toList = 0
   ·rw [if_pos h,if_pos (by rw [ha,h];rfl),ih]
   ·rw [if_neg h,if_neg (by rw [ha];omega),ha]
theorem aqi (x y:bj):Qa (W9 y x) = - Qa (W9 x y):=by
 unfold W9;simp only [Qa];rw [Ls x.key.data.toList,aeN x.op,acs x.values];repeat' split
 all_goals omega
theorem aqj (x y:bj):Qa (W9 x y) = 0↔yI x y = true:=by
 rw [Sh];have h1:=GK x.key.data.toList y.key.data.toList;have h2:=aeM x.op y.op;have h3:=acr x.values y.values;unfold W9;simp only [Qa];constructor
 ·intro h;by_cases e1:Lib.compareBytes x.key.data.toList y.key.data.toList = 0
  ·rw [if_pos e1] at h;by_cases e2:Lib.compareInt x.op y.op = 0
   ·rw [if_pos e2] at h;by_cases e3:qW x.values y.values = 0
    ·have k1:=ahr (h1.1 e1);have k2:=h2.1 e2;have k3:=h3.1 e3;cases x;cases y
     simp only at k1 k2 k3;subst k1 k2 k3;rfl
    ·rw [if_neg e3] at h;exact absurd h e3
   ·rw [if_neg e2] at h;exact absurd h e2
  ·rw [if_neg e1] at h;exact absurd h e1
 ·rintro rfl;rw [if_pos (h1.2 rfl),if_pos (h2.2 rfl),if_pos (h3.2 rfl)]
theorem ad4 (x y:bj):(Qa (W9 x y) == 0) = yI x y:=by
 rw [Bool.eq_iff_iff,beq_iff_eq];exact aqj x y
theorem amW (x y:bj):(!(nD x y || nD y x)) = yI x y:=by
 rw [← ad4];unfold nD;rw [aqi x y];by_cases h:Qa (W9 x y) = 0
 ·simp [h]
 ·have h1:(Qa (W9 x y) == 0) = false:=by simpa using h
  rw [h1];by_cases h2:Qa (W9 x y) < 0
  ·simp [h2]
  ·have h3:- Qa (W9 x y) < 0:=O;rw [decide_eq_true h3,decide_eq_false h2];rfl
theorem pJ (xs ys:List aD) (A B:Option Addr) (c d:Nat) (F G:List Nat) (w:World) (h:Sl w xs A c F) (h':Sl w ys B d G) :
 Calls Tryz.prog 40 #[.slice A xs.length c,.slice B ys.length d] w fun e w'=>e = .returned (.bool (same vZ xs ys))∧Below w.heap.size w w':=by
 have hc:=h.aM;unfold maxLen at hc;obtain ⟨db,cb⟩:=hc;have hd:=h'.aM;unfold maxLen at hd;obtain ⟨xX,M6⟩:=hd;by_cases hl:xs.length = ys.length
 ·have HL:=I hl;have bm:((xs.length:Int) != (ys.length:Int)) = false:=by simp [hl]
  clear hl;go_enter Tryz.func40,Tryz.ntmps40;go_wp2;go_loopw [5] (fun i wr=>∃k:Nat,k≤xs.length∧i = .int .i64 k∧Hid (same vZ (xs.take k) (ys.take k) = true)∧Below w.heap.size w wr) (fun i _=>xs.length - (intOf i).toNat)
  case atStart=>exact ⟨0,Nat.zero_le _,rfl,by show _ = true;simp [same],aj _⟩
  case round =>
   obtain ⟨k,hk,rfl,Heq,az⟩:=hrel;by_cases ap:k < xs.length
   ·obtain ⟨b,o,ck,Fk,rfl,o9,hbs,hr,br,hc⟩:=(h.ext az).get ap;have fL:k < ys.length:=(by rw [← HL.out];exact ap);obtain ⟨b',o',TY,Xw,rfl,Ht,hbs',cj,zQ,hc'⟩:=(h'.ext az).get fL;obtain ⟨ax,rfl,xO,xk⟩:=vO hr;subst ax;obtain ⟨ax,rfl,vC,rP⟩:=vO cj;subst ax;obtain ⟨q0,q1⟩:=vf 2 hc;obtain ⟨p0,p1⟩:=vf 2 hc';clear hc hc';go_wp2_with fail
    refine aF wr U' U' BP ?_
    repeat (first
     | (apply aG
        case hw=>rfl
        simp only [Act.put,pz])
     | (apply aH
        case hw=>rfl
        case h =>
         intro wq hq;have dP:=(aB hq).1;have lJ:=(aB hq).2;go_simp
         first
          | exact ⟨hq,rfl⟩
          | exact ⟨aQ hq _,rfl⟩
          | ((refine Gj (v:=.bool (!(vZ xs[k] ys[k]))) ?_ hq;unfold vZ;repeat' split;all_goals simp [*]))
          | (simp only [↓IntWalk.iteOmega];exact ⟨hq,rfl⟩)
        simp only [Act.put,pz]))
    refine aN ?_;intro wn hn;replace hn:=hn.out;go_wp2
    ·rename_i cA;go_ret
     refine ⟨?_,ah az hn⟩;rw [nP (k+1) WZ HL.out];rfl
    ·exact Iu
   ·exact JQ
 ·have bm:((xs.length:Int) != (ys.length:Int)) = true:=by simp;omega
  have HL:=I (qN (eq:=vZ) hl);clear hl;go_enter Tryz.func40,Tryz.ntmps40;go_wp2;go_ret
  exact ⟨by rw [HL.out];rfl,aj _⟩
end Go.Proofs.YtjahcnjmjahbaaaGreat
