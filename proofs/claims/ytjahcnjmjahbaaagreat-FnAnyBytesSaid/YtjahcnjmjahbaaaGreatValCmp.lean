/- cmp.Compare and slices.Compare of strings. No condition. -/
import Derived.Test.YtjahcnjmjahbaaaGreatCmp2
import Derived.Laws.Cover1
namespace Go.Proofs.YtjahcnjmjahbaaaGreat
open Go.ChangeShapes Go.WideShapes Go.ChangeAt Go.RowKit
set_option linter.unusedVariables false
set_option linter.unusedSimpArgs false
set_option maxHeartbeats 2000000
set_option maxRecDepth 100000
theorem asO (a b:List UInt8) (h1:Op.bytesLess a b = true):Lib.compareBytes a b = -1:=by
 have h3:=qj a b;have h4:=(Wx a b).2 h1;omega
theorem TK:∀a b:List UInt8,Lib.compareBytes b a = - Lib.compareBytes a b
 | [],[]=>rfl
 | [],_ :: _=>rfl
 | _ :: _,[]=>rfl
 | x :: a,y :: b=>by
   have ih:=TK a b;unfold Lib.compareBytes;by_cases h1:x < y
   ·have h2:¬y < x:=λh=>absurd (UInt8.lt_trans h1 h) (UInt8.lt_irrefl _);rw [if_pos h1,if_neg h2,if_pos h1];rfl
   ·by_cases h2:y < x
    ·rw [if_pos h2,if_neg h1,if_pos h2]
    ·rw [if_neg h1,if_neg h2,if_neg h2,if_neg h1];exact ih
theorem Yb (a b:ByteArray) (w:World):Calls Tryz.prog 158 #[.string a,.string b] w λe w'=>e = .returned (.int .i64 (Lib.compareBytes a.data.toList b.data.toList))/\w' = w:=by
 have haa:(a.toList == a.toList) = true:=by simp
 have ot:(b.toList == b.toList) = true:=by simp
 cases h1:Op.bytesLess a.toList b.toList with
 | true =>have hf:=asO _ _ h1;rw [ByteArray.toList_eq,ByteArray.toList_eq] at hf;rw [hf];exact DB
 | false =>
   cases h2:Op.bytesLess b.toList a.toList with
   | true =>
     have hf:=asO _ _ h2;rw [TK,ByteArray.toList_eq,ByteArray.toList_eq] at hf;have h9:(a.toList == b.toList) = false:=by rw [beq_eq_false_iff_ne];intro e;rw [ByteArray.toList_eq,ByteArray.toList_eq,<- J5] at e;omega
     rw [show Lib.compareBytes a.data.toList b.data.toList = 1 by omega];exact DB
   | false =>
     have h3:¬Lib.compareBytes a.toList b.toList < 0:=λh=>by rw [Wx,h1] at h;cases h
     have h4:¬Lib.compareBytes b.toList a.toList < 0:=λh=>by rw [Wx,h2] at h;cases h
     rw [TK] at h4;rw [ByteArray.toList_eq,ByteArray.toList_eq] at h3 h4;have h8:Lib.compareBytes a.data.toList b.data.toList = 0:=J;have h9:(a.toList == b.toList) = true:=by rw [beq_iff_eq,ByteArray.toList_eq,ByteArray.toList_eq];exact (J5 _ _).1 h8
     rw [h8];exact DB
def qW:List ByteArray->List ByteArray->Int
 | [],[]=>0
 | [],_ :: _=>-1
 | _ :: _,[]=>1
 | x :: xs,y :: ys=>if Lib.compareBytes x.data.toList y.data.toList = 0 then qW xs ys else Lib.compareBytes x.data.toList y.data.toList
theorem ab5 {xs ys:List ByteArray} {k:Nat} (h:k < xs.length) (h':k < ys.length):qW (xs.drop k) (ys.drop k) = if Lib.compareBytes xs[k].data.toList ys[k].data.toList = 0 then qW (xs.drop (k+1)) (ys.drop (k+1)) else Lib.compareBytes xs[k].data.toList ys[k].data.toList:=by
 rw [<- List.getElem_cons_drop h,<- List.getElem_cons_drop h'];rfl
theorem ab6 {xs ys:List ByteArray} {k:Nat} (h:k < xs.length) (h':ys.length<=k):qW (xs.drop k) (ys.drop k) = 1:=by
 rw [<- List.getElem_cons_drop h,List.drop_eq_nil_of_le h'];rfl
theorem adS {xs ys:List ByteArray} {k:Nat} (h:xs.length<=k):qW (xs.drop k) (ys.drop k) = if k < ys.length then -1 else 0:=by
 rw [List.drop_eq_nil_of_le h];by_cases h':k < ys.length
 ·rw [if_pos h',<- List.getElem_cons_drop h'];rfl
 ·rw [if_neg h',List.drop_eq_nil_of_le J];rfl
theorem ZR:∀xs ys:List ByteArray,-1<=qW xs ys/\qW xs ys<=1
 | [],[]=>by simp [qW]
 | [],_ :: _=>by simp [qW]
 | _ :: _,[]=>by simp [qW]
 | x :: xs,y :: ys=>by
   have h1:=ZR xs ys;have h2:=qj x.data.toList y.data.toList;unfold qW;split <;> omega
theorem aeC (xs ys:List ByteArray) (A B:Option Addr) (n m c d:Nat) (F G:List Nat) (w:World) (h:Sl w xs A c F) (h':Sl w ys B d G) (hn:n = xs.length) (hm:m = ys.length) (hl:(xs.length:Int)<=1048576) (zR:(ys.length:Int)<=1048576) :
 Calls Tryz.prog 200 #[.slice A n c,.slice B m d] w λe w'=>e = .returned (.int .i64 (qW xs ys))/\w' = w:=by
 subst hn hm;go_enter Tryz.func200,Tryz.ntmps200;go_wp2_with fail
 go_loop [11] (λi=>∃k:Nat,k<=xs.length/\i = .int .i64 k/\Hid (k<=ys.length)/\Hid (qW xs ys = qW (xs.drop k) (ys.drop k))) (λi=>xs.length - (intOf i).toNat)
 case atStart=>exact ⟨0,Nat.zero_le _,rfl,Nat.zero_le _,rfl⟩
 case round =>
  obtain ⟨k,hk,rfl,HK,HO⟩:=hrel;have hky:=HK.out;by_cases am:k < xs.length
  ·obtain ⟨b,o,ck,Fk,rfl,o9,hbs,hr,bm,hc⟩:=h.get am;obtain ⟨aq,su,eJ⟩:=hr;subst aq su;have q0:w.cell? ⟨b,o+k,none⟩ = some (.string xs[k]):=(by have:=hc 0 _ rfl;rwa [show o+(k * bd.size ByteArray+0) = o+k from by show o+(k * 1+0) = _;omega] at this);clear hc;by_cases hly:k < ys.length
   ·obtain ⟨b2,o2,ck2,Fk2,rfl,ayO,uO,fb,ju,bX⟩:=h'.get hly;obtain ⟨aq,su,hsz2⟩:=fb;subst aq su;have p0:w.cell? ⟨b2,o2+k,none⟩ = some (.string ys[k]):=(by have:=bX 0 _ rfl;rwa [show o2+(k * bd.size ByteArray+0) = o2+k from by show o2+(k * 1+0) = _;omega] at this);clear bX;have hd:=ab5 am hly;have hC:=Yb xs[k] ys[k] w;generalize hz:Lib.compareBytes xs[k].data.toList ys[k].data.toList = z at hd hC;by_cases h0:z = 0
    ·rw [if_pos h0] at hd;have HN:=I (HO.out.trans hd);have HC:=I hC;clear hd hC hz;subst h0;go_wp2_with (go_at_call 158;refine HC.out.mono ?_;rintro e w2 ⟨rfl,rfl⟩)
     exact ⟨⟨k+1,J,N',by show k+1<=ys.length;omega,HN.out⟩,by simp [intOf];omega⟩
    ·rw [if_neg h0] at hd;have HN:=I (HO.out.trans hd);have HC:=I hC;have fR:(z == 0) = false:=(by simp [h0]);have bi:(z != 0) = true:=(by simp [h0]);clear hd hC hz;go_wp2_with (go_at_call 158;refine HC.out.mono ?_;rintro e w2 ⟨rfl,rfl⟩)
     go_ret
     exact ⟨by rw [HN.out];rfl,rfl⟩
   ·have HN:=I (HO.out.trans (ab6 am J));have iN:(ys.length:Int)<=k:=J;exact sE
  ·have bs:k = xs.length:=J;subst bs;have he:=HO.out.trans (adS (Nat.le_refl _));by_cases hly:xs.length < ys.length
   ·rw [if_pos hly] at he;have HN:=I he;clear he;have WQ:(xs.length:Int) < ys.length:=J;exact sE
   ·rw [if_neg hly] at he;have HN:=I he;clear he;have WQ:¬(xs.length:Int) < ys.length:=J;exact sE
def W9 (x y:aE):List Int:=[Lib.compareBytes x.key.data.toList y.key.data.toList,Lib.compareInt x.op y.op,qW x.values y.values]
def nD (x y:aE):Bool:=decide (Qa (W9 x y) < 0)
theorem ayN (x y:aE) (cs ds:List Value) (F G:List Nat) (w:World) (h:rd w x cs F) (h':rd w y ds G) (hl:(x.values.length:Int)<=1048576) (zR:(y.values.length:Int)<=1048576) :
 Calls Tryz.prog 169 #[.agg cs.toArray,.agg ds.toArray] w λe w'=>e = .returned (.int .i64 (Qa (W9 x y)))/\Gr w w':=by
 obtain ⟨pX,pY,KG,aq,hF1,xO,kv,wO⟩:=og h;obtain ⟨qO,qP,KL,jU,kt,vC,hop2,zS⟩:=og h';subst aq jU;subst hF1 kt;have f':=qj x.key.data.toList y.key.data.toList;have fb:=BU x.op y.op;have ek:=ZR x.values y.values;go_enter Tryz.func169,Tryz.ntmps169;go_wp2_with fail
 refine nS ((w.alloc (.cells #[.string x.key,.int .i64 x.op,.slice pX x.values.length pY] 89)).alloc (.cells #[.string y.key,.int .i64 y.op,.slice qO y.values.length qP] 89)) [0,1,2,3,5,6,7,8,10,11,12,13] [4,9,14,15,16,17] U' U' H' (aj _) ?_;simp only [pick,List.getElem?_cons_succ,List.getElem?_cons_zero]
 iterate 12
  (apply dR
   case hy =>exact Dy
   simp only [Act.put,pz])
 refine fE ?_;have bo:=aA (aj ((w.alloc (.cells #[.string x.key,.int .i64 x.op,.slice pX x.values.length pY] 89)).alloc (.cells #[.string y.key,.int .i64 y.op,.slice qO y.values.length qP] 89)));refine aK rfl (λK hK=>?_);go_simp;refine (N8 x.key y.key _).mono ?_;rintro e wz ⟨rfl,hw⟩;simp only [hw];clear hw wz;refine hK _ _ bo (λ_=>?_);try simp only [Act.put,pz]
 clear hK K;refine aK rfl (λK hK=>?_);go_simp;refine (EI x.op y.op _).mono ?_;rintro e wz ⟨rfl,hw⟩;simp only [hw];clear hw wz;refine hK _ _ bo (λ_=>?_);try simp only [Act.put,pz]
 clear hK K;have nB:=ah (ak (ak (aj w) (.cells #[.string x.key,.int .i64 x.op,.slice pX x.values.length pY] 89)) (.cells #[.string y.key,.int .i64 y.op,.slice qO y.values.length qP] 89)) bo;refine aK rfl (λK hK=>?_);go_simp;refine (aeC x.values y.values _ _ _ _ _ _ _ _ _ (wO.ext nB) (zS.ext nB) rfl rfl hl zR).mono ?_;rintro e wz ⟨rfl,hw⟩;simp only [hw];clear hw wz;refine hK _ _ bo (λ_=>?_);try simp only [Act.put,pz]
 clear hK K;refine aK rfl (λK hK=>?_);go_simp;replace bo:=ak bo (.cells #[.int .i64 (Lib.compareBytes x.key.data.toList y.key.data.toList),.int .i64 (Lib.compareInt x.op y.op),.int .i64 (qW x.values y.values)] 3);refine hK _ _ bo (λ_=>?_);try simp only [Act.put,pz]
 clear hK K;have hS:=Sl.WK (Sl.zP ((w.alloc (.cells #[.string x.key,.int .i64 x.op,.slice pX x.values.length pY] 89)).alloc (.cells #[.string y.key,.int .i64 y.op,.slice qO y.values.length qP] 89)) _ _ _ 3 (aR.small f') (aR.small fb) (aR.small ek) (w.heap.size+2) S');refine aK rfl (λK hK=>?_);go_simp;refine (WH _ _ 3 _ _ _ hS rfl S').mono ?_;rintro e wz ⟨rfl,hw⟩;simp only [hw];clear hw wz;refine hK _ _ bo (λ_=>?_);try simp only [Act.put,pz]
 clear hK K;refine aK rfl (λK hK=>?_);go_simp;refine hK _ _ bo (λ_=>?_);try simp only [Act.put,pz]
 clear hK K;refine dX ?_;go_wp2;go_ret
 exact ⟨rfl,Wt⟩
theorem UA (x y:aE) (cs ds:List Value) (F G:List Nat) (w:World) (h:rd w x cs F) (h':rd w y ds G) (hl:(x.values.length:Int)<=1048576) (zR:(y.values.length:Int)<=1048576) :
 Calls Tryz.prog 169 #[.agg cs.toArray,.agg ds.toArray] w λe w'=>e = .returned (.int .i64 (Qa (W9 x y)))/\Below w.heap.size w w' :=
 (ayN x y cs ds F G w h h' hl zR).mono λ_ _ hh=>⟨hh.1,hh.2.below⟩
theorem ail (x y:aE) (cs ds:List Value) (F G:List Nat) (w:World) (h:rd w x cs F) (h':rd w y ds G) (hl:(x.values.length:Int)<=1048576) (zR:(y.values.length:Int)<=1048576) :
 Calls Tryz.prog 128 #[.agg cs.toArray,.agg ds.toArray] w λe w'=>e = .returned (.bool (nD x y))/\Below w.heap.size w w':=by
 have hC:∀wq,Below w.heap.size w wq->Calls Tryz.prog 169 #[.agg cs.toArray,.agg ds.toArray] wq λe w'=>e = .returned (.int .i64 (Qa (W9 x y)))/\Below wq.heap.size wq w' :=
  λwq hq=>UA x y cs ds F G wq (bd.frame h (λb d8=>hq.block b (bd.lt h b d8)) hq.size) (bd.frame h' (λb d8=>hq.block b (bd.lt h' b d8)) hq.size) hl zR
 have hz:nD x y = decide (Qa (W9 x y) < 0):=rfl;generalize Qa (W9 x y) = z at hC hz;rw [hz];clear hz;obtain ⟨pX,pY,KG,aq,hF1,xO,kv,wO⟩:=og h;obtain ⟨qO,qP,KL,jU,kt,vC,hop2,zS⟩:=og h';subst aq jU;have HC:=I hC;clear hC;go_enter Tryz.func128,Tryz.ntmps128;go_wp2_with fail
 refine (HC.out _ bc).mono ?_;rintro e w2 ⟨rfl,ap⟩;go_wp2;go_ret
 exact ⟨rfl,bc⟩
theorem akQ {x y:aE} (h:(x.key.toList == y.key.toList) = false):nD x y = Op.bytesLess x.key.toList y.key.toList:=by
 have h1:Lib.compareBytes x.key.data.toList y.key.data.toList≠0:=λe=>by
  exact sz
 unfold nD W9;simp only [Qa,if_neg h1];exact sy
theorem amw {x y:aE} (hk:(x.key.toList == y.key.toList) = true) (h:x.op≠y.op):nD x y = decide (x.op < y.op):=by
 have h0:Lib.compareBytes x.key.data.toList y.key.data.toList = 0:=by rw [J5,<- ByteArray.toList_eq,<- ByteArray.toList_eq];simpa using hk
 have h1:Lib.compareInt x.op y.op≠0:=by unfold Lib.compareInt;repeat' split <;> omega
 unfold nD W9;simp only [Qa,if_pos h0,if_neg h1];exact Dj
theorem aeD {x y:aE} (hk:(x.key.toList == y.key.toList) = true) (h:x.op = y.op):nD x y = decide (qW x.values y.values < 0):=by
 have h0:Lib.compareBytes x.key.data.toList y.key.data.toList = 0:=by rw [J5,<- ByteArray.toList_eq,<- ByteArray.toList_eq];simpa using hk
 have h1:Lib.compareInt x.op y.op = 0:=by unfold Lib.compareInt;repeat' split <;> omega
 unfold nD W9;simp only [Qa,if_pos h0,if_pos h1];by_cases h2:qW x.values y.values = 0
 ·rw [if_pos h2,h2]
 ·rw [if_neg h2]
theorem TN (x y:aE) (cs ds:List Value) (F G:List Nat) (w:World) (h:rd w x cs F) (h':rd w y ds G) (hl:(x.values.length:Int)<=1048576) (zR:(y.values.length:Int)<=1048576) :
 Calls Tryz.prog 80 #[.agg cs.toArray,.agg ds.toArray] w λe w'=>e = .returned (.bool (nD x y))/\Below w.heap.size w w':=by
 obtain ⟨pX,pY,KG,aq,hF1,xO,kv,wO⟩:=og h;obtain ⟨qO,qP,KL,jU,kt,vC,hop2,zS⟩:=og h';subst aq jU;cases h1:(x.key.toList == y.key.toList) with
 | false =>rw [akQ h1];go_enter Tryz.func80,Tryz.ntmps80;exact pM
 | true =>
   by_cases h3:x.op = y.op
   ·have bb:=aeD h1 h3;have HF:=I bb;clear bb;have h4:(x.op == y.op) = true:=(by simp [h3]);go_enter Tryz.func80,Tryz.ntmps80;go_wp2;go_loopw [5] (λi wr=>∃k:Nat,k<=x.values.length/\i = .int .i64 k/\Hid (k<=y.values.length)/\Hid (qW x.values y.values = qW (x.values.drop k) (y.values.drop k))/\wr.cell? ⟨w.heap.size,2,none⟩ = some (.slice pX x.values.length pY)/\wr.cell? ⟨w.heap.size+1,2,none⟩ = some (.slice qO y.values.length qP)/\Below w.heap.size w wr) (λi _=>x.values.length - (intOf i).toNat)
    case atStart =>
     refine ⟨0,Nat.zero_le _,rfl,Nat.zero_le _,rfl,?_,?_,bc⟩
     ·exact C7
     ·simp
    case round =>
     obtain ⟨k,hk,rfl,HK,HO,hx1,zZ,ax⟩:=hrel;have hky:=HK.out;have cG:=World.block_lt_of_cell? wr _ hx1;have cr:=World.block_lt_of_cell? wr _ zZ;simp only at cG cr;by_cases am:k < x.values.length
     ·by_cases hly:k < y.values.length
      ·obtain ⟨b,o,ck,Fk,rfl,o9,hbs,hr,bm,hc⟩:=(Sl.ext (w':=wr) (A:=pX) (c:=pY) wO ax).get am;obtain ⟨aq,su,eJ⟩:=hr;subst aq su;have q0:wr.cell? ⟨b,o+k,none⟩ = some (.string x.values[k]):=(by have:=hc 0 _ rfl;rwa [show o+(k * bd.size ByteArray+0) = o+k from by show o+(k * 1+0) = _;omega] at this);clear hc;obtain ⟨b2,o2,ck2,Fk2,rfl,ayO,uO,fb,ju,bX⟩:=(Sl.ext (w':=wr) (A:=qO) (c:=qP) zS ax).get hly;obtain ⟨aq,su,hsz2⟩:=fb;subst aq su;have p0:wr.cell? ⟨b2,o2+k,none⟩ = some (.string y.values[k]):=(by have:=bX 0 _ rfl;rwa [show o2+(k * bd.size ByteArray+0) = o2+k from by show o2+(k * 1+0) = _;omega] at this);clear bX;have hd:=ab5 am hly;cases he:(x.values[k].toList == y.values[k].toList) with
       | true =>
         have h0:Lib.compareBytes x.values[k].data.toList y.values[k].data.toList = 0:=(by rw [J5,<- ByteArray.toList_eq,<- ByteArray.toList_eq];simpa using he);rw [if_pos h0] at hd;have HN:=I (HO.out.trans hd);clear hd h0;go_wp2_with fail
         refine aF _ U' U' (aj _) ?_
         repeat ((first | refine aG J' ?_ | refine aH _ J' du ?_);simp only [Act.put,pz])
         refine aN ?_;intro wn hn;replace hn:=hn.out;replace hx1:=r' hn hx1 cG;replace zZ:=r' hn zZ cr;replace q0:=r' hn q0 hbs;replace p0:=r' hn p0 uO;replace cG:=Nat.lt_of_lt_of_le cG hn.size;replace cr:=Nat.lt_of_lt_of_le cr hn.size;replace hbs:=Nat.lt_of_lt_of_le hbs hn.size;replace uO:=Nat.lt_of_lt_of_le uO hn.size;replace ax:=ah ax hn;go_wp2;exact ⟨⟨k+1,J,N',by show k+1<=y.values.length;omega,HN.out,hx1,zZ,ax⟩,by simp [intOf];omega⟩
       | false =>
         have h0:Lib.compareBytes x.values[k].data.toList y.values[k].data.toList≠0:=λe=>by
          rw [J5,<- ByteArray.toList_eq,<- ByteArray.toList_eq] at e;simp [e] at he
         rw [if_neg h0] at hd;have hg:nD x y = Op.bytesLess x.values[k].toList y.values[k].toList:=by rw [HF.out,HO.out,hd,Bool.eq_iff_iff,decide_eq_true_eq,Wx,ByteArray.toList_eq,ByteArray.toList_eq]
         have HG:=I hg;clear hd h0 hg;go_wp2_with fail
         refine aF _ U' U' (aj _) ?_
         repeat ((first | refine aG J' ?_ | refine aH _ J' du ?_);simp only [Act.put,pz])
         refine aN ?_;intro wn hn;replace hn:=hn.out;replace hx1:=r' hn hx1 cG;replace zZ:=r' hn zZ cr;replace q0:=r' hn q0 hbs;replace p0:=r' hn p0 uO;replace cG:=Nat.lt_of_lt_of_le cG hn.size;replace cr:=Nat.lt_of_lt_of_le cr hn.size;replace hbs:=Nat.lt_of_lt_of_le hbs hn.size;replace uO:=Nat.lt_of_lt_of_le uO hn.size;replace ax:=ah ax hn;clear hn;go_wp2_with fail
         first
          | (go_ret;exact ⟨by rw [HG.out];first | rfl | simp_all,ax⟩)
          | (refine aF _ U' U' (aj _) ?_
             repeat ((first | refine aG J' ?_ | refine aH _ J' du ?_);simp only [Act.put,pz])
             refine aN ?_;intro wn2 pc;replace pc:=pc.out;go_wp2;go_ret
             exact ⟨by rw [HG.out];first | rfl | simp_all,ah ax pc⟩)
      ·have hg:nD x y = false:=(by rw [HF.out,HO.out,ab6 am J];rfl);have HG:=I hg;have hli:¬(x.values.length:Int) < y.values.length:=J;clear hg;exact DA
     ·have bs:k = x.values.length:=J;subst bs;have he:=HO.out.trans (adS (Nat.le_refl _));by_cases hly:x.values.length < y.values.length
      ·rw [if_pos hly] at he;have hg:nD x y = true:=(by rw [HF.out,he];rfl);have HG:=I hg;have hli:(x.values.length:Int) < y.values.length:=J;clear hg he;exact DA
      ·rw [if_neg hly] at he;have hg:nD x y = false:=(by rw [HF.out,he];rfl);have HG:=I hg;have hli:¬(x.values.length:Int) < y.values.length:=J;clear hg he;exact DA
   ·rw [amw h1 h3];have h4:(x.op == y.op) = false:=(by simp [h3]);go_enter Tryz.func80,Tryz.ntmps80;exact pM
end Go.Proofs.YtjahcnjmjahbaaaGreat
