/- Readers of bytes, in plain Lean: the program's and the reference's end alike. No condition. -/
import Derived.Test.YtjahcnjmjahbaaaGreatLabelsOk
import Derived.Deep.Upon
namespace Go.Proofs.YtjahcnjmjahbaaaGreat
open Go.ChangeShapes Go.WideShapes Go.ChangeAt Go.RowKit
set_option linter.unusedVariables false
set_option linter.unusedSimpArgs false
set_option maxHeartbeats 2000000
set_option maxRecDepth 100000
theorem ai7 (s:ByteArray) (a:Nat):∀(j k n:Nat) (q:Nat × Nat),j = 9 - k→n < 2 ^ (7 * k)→Xc s a k n = some q→q.1 < 2 ^ 63∧q.2≤s.size
 | j,k,n,q,hj,hn,h=>by
   by_cases hk:k < 9∧a+k < s.size
   ·have e:s[a+k].toNat % 128 < 128:=Nat.mod_lt _ (by decide);have hp:(2:Nat) ^ (7 * (k+1)) = 2 ^ (7 * k) * 128:=(by rw [Nat.mul_add,Nat.pow_add]);have hm:s[a+k].toNat % 128 * 2 ^ (7 * k)≤127 * 2 ^ (7 * k):=Nat.mul_le_mul_right _ J;have gg:n+s[a+k].toNat % 128 * 2 ^ (7 * k) < 2 ^ (7 * (k+1)):=J;by_cases hc:s[a+k].toNat < 128
    ·by_cases hz:s[a+k].toNat = 0∧0 < k
     ·rw [wX hk.1 hk.2 hz.1 hz.2] at h;cases h
     ·rw [x9 hk.1 hk.2 hc hz] at h;cases h
      have h63:(2:Nat) ^ (7 * (k+1))≤2 ^ 63:=Nat.pow_le_pow_right (by decide) J;exact ⟨by show _ < _;omega,by show _≤_;omega⟩
    ·rw [uT hk.1 hk.2 J] at h;match j,hj with
     | 0,hj=>omega
     | j+1,hj=>exact ai7 s a j (k+1) _ q J gg h
   ·rw [UH hk] at h;cases h
theorem aiq {s:ByteArray} {a:Int} {q:Nat × Nat} (h:Af s a = some q):q.1 < 2 ^ 63∧q.2≤s.size:=by
 unfold Af at h;split at h
 ·cases h
 ·exact ai7 s _ 9 0 0 q rfl (by decide) h
def fG (s:ByteArray) (a:Int):Int × Int:=match Af s a with | some (n,p)=>((n:Int),(p:Int)) | none=>(0,-1)
theorem ak5 (s:ByteArray) (a:Int):OJ (Af s a) = .tuple #[.int .i64 (fG s a).1,.int .i64 (fG s a).2]:=by
 unfold fG;cases h:Af s a <;> rfl
theorem IG (s:ByteArray) (a:Int):(fG s a = (0,-1))∨∃n p:Nat,fG s a = ((n:Int),(p:Int))∧n < 2 ^ 63∧p≤s.size:=by
 unfold fG;cases h:Af s a with
 | none=>exact .inl rfl
 | some q=>obtain ⟨n,p⟩:=q;exact .inr ⟨n,p,rfl,aiq h⟩
theorem QA {s:ByteArray} {a:Int} (h:a < 0):fG s a = (0,-1):=by unfold fG Af;rw [if_pos h]
def rU (s:ByteArray) (a:Int):ByteArray × Int :=
 if (fG s a).2 < 0∨(s.size:Int) - (fG s a).2 < (fG s a).1 then (⟨#[]⟩,-1)
 else (s.extract (fG s a).2.toNat ((fG s a).2.toNat+(fG s a).1.toNat),(fG s a).2+(fG s a).1)
theorem Oq (s:ByteArray) (a:Int) (hs:(s.size:Int)≤1048576):((rU s a).1.size:Int)≤1048576∧-1≤(rU s a).2∧(rU s a).2≤s.size:=by
 unfold rU;rcases IG s a with h | ⟨n,p,h,hn,hp⟩
 ·rw [h,if_pos (.inl (by decide))];exact JQ
 ·rw [h];simp only [];split
  ·exact JQ
  ·rename_i hc;refine ⟨?_,by show (-1:Int)≤(p:Int)+(n:Int);omega,by show (p:Int)+(n:Int)≤_;omega⟩;show ((s.extract _ _).size:Int)≤_;rw [ByteArray.size_extract];omega
theorem aha (s:ByteArray) (a:Int) (hs:(s.size:Int)≤1048576):bi (fG s a).1∧(-1≤(fG s a).2∧(fG s a).2≤1048576)∧0≤(fG s a).1:=by
 rcases IG s a with h | ⟨n,p,h,hn,hp⟩
 ·rw [h];exact ⟨⟨by show _≤(0:Int);omega,by show (0:Int)≤_;omega⟩,⟨by show (-1:Int)≤-1;omega,by show (-1:Int)≤_;omega⟩,by show (0:Int)≤0;omega⟩
 ·rw [h];exact ⟨⟨by show _≤(n:Int);omega,by show (n:Int)≤_;omega⟩,⟨by show (-1:Int)≤(p:Int);omega,by show (p:Int)≤_;omega⟩,by show (0:Int)≤(n:Int);omega⟩
def jC (s:ByteArray) (most:Int) (a:Int):Int × Int :=
 if (fG s a).1≤most then (if (fG s a).2 < 0 then (0,(fG s a).2) else fG s a) else (0,-1)
def dP (s:ByteArray) (a:Int):ByteArray × Int:=if a < 0 then (⟨#[]⟩,a) else rU s a
theorem vI (s:ByteArray) (most a:Int) (hm:0≤most):(0≤(jC s most a).1∧(jC s most a).1≤most):=by
 unfold jC;have h0:0≤(fG s a).1:=by
  rcases IG s a with e | ⟨n,p,e,_,_⟩
  ·rw [e];exact Int.le_refl 0
  ·rw [e];exact Int.natCast_nonneg n
 split
 ·split
  ·exact ⟨Int.le_refl 0,hm⟩
  ·exact ⟨h0,Y'⟩
 ·exact ⟨Int.le_refl 0,hm⟩
theorem EU {s:ByteArray} {a:Int} (h:a < 0):(dP s a).2 < 0:=by unfold dP;rw [if_pos h];exact h
def qX {α:Type} (r:Int→α × Int):Nat→List α→Int→List α × Int
 | 0,xs,a=>(xs,a)
 | k+1,xs,a=>qX r k (xs++[(r a).1]) (r a).2
theorem MQ {α:Type} (r:Int→α × Int):∀(k:Nat) (xs:List α) (a:Int),(qX r k xs a).1.length = xs.length+k
 | 0,_,_=>rfl
 | k+1,xs,a=>by rw [qX,MQ r k];simp;omega
theorem MP {α:Type} {r:Int→α × Int} (hr:∀a,a < 0→(r a).2 < 0):∀(k:Nat) (xs:List α) (a:Int),a < 0→(qX r k xs a).2 < 0
 | 0,_,_,h=>h
 | k+1,xs,a,h=>MP hr k _ _ (hr a h)
def xu (s:ByteArray) (a:Int):ao × Int:=(⟨(dP s a).1,(dP s (dP s a).2).1⟩,(dP s (dP s a).2).2)
theorem RW {s:ByteArray} {a:Int} (h:a < 0):(xu s a).2 < 0:=EU (EU h)
def iP (s:ByteArray) (a:Int):List ao × Int:=qX (xu s) (jC s 6 a).1.toNat [] (jC s 6 a).2
def iF (s:ByteArray) (a:Int):List ao × Int:=((iP s a).1,if sD (iP s a).1 = true then (iP s a).2 else -1)
theorem ahb (s:ByteArray) (a:Int) (w:World) (hs:(s.size:Int)≤1048576) (ha:bi a) :
 Calls Tryz.prog 120 #[.string s,.int .i64 a] w fun e w'=>e = .returned (.tuple #[.string (rU s a).1,.int .i64 (rU s a).2])∧w' = w:=by
 have Nx:=ace s a w hs ha;rw [ak5] at Nx;have Io:=I Nx;rcases IG s a with hv | ⟨n,p,hv,hn,hp⟩
 ·have HF:=I (show rU s a = (⟨#[]⟩,-1) by unfold rU;rw [hv,if_pos (.inl (by decide))]);have HV:=I hv;clear Nx hv;exact zy
 ·by_cases fp:n≤s.size - p
  ·have HF:=I (show rU s a = (s.extract p (p+n),((p:Int)+(n:Int))) by
    unfold rU;rw [hv,if_neg (by show ¬((p:Int) < 0∨(s.size:Int) - (p:Int) < (n:Int));omega)]
    rfl)
   have HV:=I hv;clear Nx hv;have ru:¬((s.size:Int) - (p:Int) < (n:Int)):=J;have er:(n:Int)≤1048576:=J;have hpi:(p:Int)≤s.size:=J;clear hn;exact zy
  ·have HF:=I (show rU s a = (⟨#[]⟩,-1) by
    unfold rU
    rw [hv,if_pos (by show (p:Int) < 0∨(s.size:Int) - (p:Int) < (n:Int);omega)])
   have HV:=I hv;clear Nx hv;have ru:(s.size:Int) - (p:Int) < (n:Int):=J;have er:(n:Int)≤9223372036854775807:=J;clear hn;exact zy
def zk (w:World) (b:Nat) (s:ByteArray) (a:Int):Prop:=(∃t,w.heap[b]? = some (.cells #[.string s,.int .i64 a] t (0,0)))∧bi a
section
variable {w w':World} {b:Nat} {s:ByteArray} {a:Int}
theorem zk.lt (h:zk w b s a):b < w.heap.size:=by
 obtain ⟨⟨t,h⟩,_⟩:=h;exact zI
theorem zk.c0 (h:zk w b s a):w.cell? ⟨b,0,none⟩ = some (.string s):=by obtain ⟨⟨t,h⟩,_⟩:=h;rw [cell_of_row w b 0 _ t (0,0) h];rfl
theorem zk.c1 (h:zk w b s a):w.cell? ⟨b,1,none⟩ = some (.int .i64 a):=by obtain ⟨⟨t,h⟩,_⟩:=h;rw [cell_of_row w b 1 _ t (0,0) h];rfl
theorem zk.fz (h:zk w b s a) (i:Nat):w.frozen? ⟨b,i,none⟩ = false:=by obtain ⟨⟨t,h⟩,_⟩:=h;simp [World.frozen?,h]
theorem zk.br (h:zk w b s a) (hk:w'.heap[b]? = w.heap[b]?):zk w' b s a:=by obtain ⟨⟨t,h⟩,hi⟩:=h;exact ⟨⟨t,hk.trans h⟩,hi⟩
theorem zk.ext (h:zk w b s a) (hb:Below w.heap.size w w'):zk w' b s a:=h.br (hb.block b h.lt)
theorem zk.set (h:zk w b s a) {a':Int} (ha:bi a'):zk (w.setCell ⟨b,1,none⟩ (.int .i64 a')) b s a':=by
 obtain ⟨⟨t,h⟩,_⟩:=h;exact ⟨⟨t,by simp [World.setCell,Array.getElem?_modify,h]⟩,ha⟩
theorem atz (b i:Nat) (w:World) (u:Value):nN [b] w (w.setCell ⟨b,i,none⟩ u):=(nN.refl [b] w).setCell S' u
theorem ai6 {n:Int} (h:-1≤n∧n≤1048576):bi n:=⟨J,J⟩
end
theorem FT (s:ByteArray) (b:Nat) (a:Int) (w:World) (h:zk w b s a) (hs:(s.size:Int)≤1048576) :
 Calls Tryz.prog 31 #[.pointer (some ⟨b,0,none⟩)] w fun e w'=>e = .returned (.int .i64 (fG s a).1)∧zk w' b s (fG s a).2∧nN [b] w w':=by
 obtain ⟨i7,fL,TR⟩:=aha s a hs;have Ck:=h.c0;have da:=h.c1;have L6:=h.fz 0;have eW:=h.fz 1;have ap:=h.lt;have HI:=I (ai6 fL);have H:=I h;have Io:=I (fun wq=>by have e:=ace s a wq hs h.2;rw [ak5] at e;exact e:∀wq,Calls Tryz.prog 72 #[.string s,.int .i64 a] wq fun e w'=>e = .returned (.tuple #[.int .i64 (fG s a).1,.int .i64 (fG s a).2])∧w' = wq);clear fL h;generalize fG s a = q at *;go_enter Tryz.func31,Tryz.ntmps31;go_wp2_with fail
 go_region_with (go_at_call 72;refine (Io.out _).mono ?_;rintro e w2 ⟨rfl,hw⟩;simp only [hw];clear hw w2)
 all_goals
  go_wp2;go_ret
  exact ⟨rfl,(zk.br (w':=w.drew) H.out rfl).set HI.out,((nN.refl [b] w).drew).setCell S' _⟩
theorem Lh (s:ByteArray) (b:Nat) (a:Int) (w:World) (h:zk w b s a) :
 Calls Tryz.prog 39 #[.pointer (some ⟨b,0,none⟩)] w fun e w'=>e = .returned (.bool (decide (a < 0)))∧w' = w:=by
 have da:=h.c1;have ap:=h.lt;go_enter Tryz.func39,Tryz.ntmps39;go_wp2;go_ret
 exact ⟨rfl,rfl⟩
theorem UG (s:ByteArray) (b:Nat) (a:Int) (Da:Bool) (w:World) (h:zk w b s a) :
 Calls Tryz.prog 73 #[.pointer (some ⟨b,0,none⟩),.bool Da] w fun e w'=>e = .returned (.tuple #[])∧zk w' b s (if Da = true then a else -1)∧nN [b] w w':=by
 have da:=h.c1;have eW:=h.fz 1;have ap:=h.lt;have H:=I h;have HS:=I (h.set (a':=-1) ⟨J,J⟩);have HU:=I (atz b 1 w (.int .i64 (-1)));clear h;cases Da
 ·go_enter Tryz.func73,Tryz.ntmps73;go_wp2;go_returns
  exact ⟨rfl,HS.out,HU.out⟩
 ·go_enter Tryz.func73,Tryz.ntmps73;go_wp2;go_returns
  exact ⟨rfl,H.out,.refl _ _⟩
theorem cL (s:ByteArray) (b:Nat) (a most:Int) (w:World) (h:zk w b s a) (hs:(s.size:Int)≤1048576) (hm:0≤most) :
 Calls Tryz.prog 32 #[.pointer (some ⟨b,0,none⟩),.int .i64 most] w fun e w'=>e = .returned (.int .i64 (jC s most a).1)∧zk w' b s (jC s most a).2∧nN [b] w w':=by
 have Db:=I (FT s b a w h hs);have lM:jC s most a = (if (fG s a).1≤most then (if (fG s a).2 < 0 then (0,(fG s a).2) else fG s a) else (0,-1)):=rfl;have HC:=I lM;clear lM;generalize fG s a = q at *;clear h;by_cases fp:q.1≤most
 ·by_cases hn:q.2 < 0
  ·have HF:=I (show jC s most a = (0,q.2) by rw [HC.out,if_pos fp,if_pos hn]);go_enter Tryz.func32,Tryz.ntmps32;go_wp2_with fail
   refine Db.out.mono ?_;rintro e w2 ⟨rfl,fL,cR⟩;have hd:decide (q.1≤most) = true:=(by simp [fp]);go_wp2_with fail
   refine (UG s b q.2 _ _ fL).mono ?_;rintro e w3 ⟨rfl,TR,b8⟩;rw [if_pos (by first | rfl | exact hd)] at TR;go_wp2_with fail
   refine (Lh s b q.2 _ TR).mono ?_;rw [show decide (q.2 < 0) = true by simp [hn]];exact zE
  ·have HF:=I (show jC s most a = q by rw [HC.out,if_pos fp,if_neg hn]);go_enter Tryz.func32,Tryz.ntmps32;go_wp2_with fail
   refine Db.out.mono ?_;rintro e w2 ⟨rfl,fL,cR⟩;have hd:decide (q.1≤most) = true:=(by simp [fp]);go_wp2_with fail
   refine (UG s b q.2 _ _ fL).mono ?_;rintro e w3 ⟨rfl,TR,b8⟩;rw [if_pos (by first | rfl | exact hd)] at TR;go_wp2_with fail
   refine (Lh s b q.2 _ TR).mono ?_;rw [show decide (q.2 < 0) = false by simp;omega];exact zE
 ·have HF:=I (show jC s most a = (0,-1) by rw [HC.out,if_neg fp]);go_enter Tryz.func32,Tryz.ntmps32;go_wp2_with fail
  refine Db.out.mono ?_;rintro e w2 ⟨rfl,fL,cR⟩;have hd:decide (q.1≤most) = false:=by simp;omega
  go_wp2_with fail
  refine (UG s b q.2 _ _ fL).mono ?_;rintro e w3 ⟨rfl,TR,b8⟩;rw [if_neg (by first | decide | (rw [hd];decide))] at TR;go_wp2_with fail
  refine (Lh s b (-1) _ TR).mono ?_;exact zE
theorem CW (s:ByteArray) (b:Nat) (a:Int) (w:World) (h:zk w b s a) (hs:(s.size:Int)≤1048576) :
 Calls Tryz.prog 74 #[.pointer (some ⟨b,0,none⟩)] w fun e w'=>e = .returned (.string (dP s a).1)∧zk w' b s (dP s a).2∧nN [b] w w':=by
 by_cases hn:a < 0
 ·have HF:=I (show dP s a = (⟨#[]⟩,a) by unfold dP;rw [if_pos hn]);go_enter Tryz.func74,Tryz.ntmps74;go_wp2_with fail
  refine (Lh s b a _ h).mono ?_;rw [show decide (a < 0) = true by simp [hn]];rintro e w4 ⟨rfl,hw⟩;simp only [hw];clear hw w4;go_wp2;go_ret
  rw [HF.out];exact ⟨rfl,h,.refl _ _⟩
 ·have HF:=I (show dP s a = rU s a by unfold dP;rw [if_neg hn]);have iu:=Oq s a hs;have Ck:=h.c0;have da:=h.c1;have L6:=h.fz 0;have eW:=h.fz 1;have ap:=h.lt;have HI:=I (ai6 (n:=(rU s a).2) ⟨iu.2.1,J⟩);have H:=I h;have Io:=I (fun wq=>ahb s a wq hs h.2);clear iu;clear h;generalize rU s a = q at *;go_enter Tryz.func74,Tryz.ntmps74;go_wp2_with fail
  refine (Lh s b a _ H.out).mono ?_;rw [show decide (a < 0) = false by simp;omega];rintro e w4 ⟨rfl,hw⟩;simp only [hw];clear hw w4;go_wp2_with fail
  go_region_with (go_at_call 120;refine (Io.out _).mono ?_;rintro e w2 ⟨rfl,hw⟩;simp only [hw];clear hw w2)
  all_goals
   go_wp2;go_ret
   rw [HF.out];exact ⟨rfl,(zk.br (w':=w.drew) H.out rfl).set HI.out,((nN.refl [b] w).drew).setCell S' _⟩
theorem PV (a:Int) (m:Nat) (hm:m < 9223372036854775808):0≤bits .and .i64 a (m:Int)∧bits .and .i64 a (m:Int)≤m:=by
 have h2:(BitVec.ofInt 64 (m:Int)).toNat = m:=by rw [BitVec.ofInt_natCast,BitVec.toNat_ofNat];exact Nat.mod_eq_of_lt J
 have h3:(BitVec.ofInt 64 a &&& BitVec.ofInt 64 (m:Int)).toNat≤m:=by rw [BitVec.toNat_and,h2];exact Nat.and_le_right
 have e:bits .and .i64 a (m:Int) = IntKind.i64.wrap ((BitVec.ofInt 64 a &&& BitVec.ofInt 64 (m:Int)).toNat:Int):=rfl;rw [e,IntKind.wrap_i64];omega
theorem aC6 (a:Int):bi (wrap64 a):=by unfold wrap64 bi;omega
theorem LP (w:World) (c:Nat) (A:Option Addr) (n aL:Nat) (h:cr w c A n aL) :
 Calls Tryz.prog 85 #[.pointer (some ⟨c,0,none⟩)] w fun e w'=>∃r:Int,e = .returned (.int .i64 r)∧(0≤r∧r≤255)∧cr w' c A n aL∧nN [c] w w':=by
 obtain ⟨i0,x0,hi,hx,c0,c1,c2,hfz⟩:=h.cells;have ap:=h.lt;have cK:=hfz 2;have H:=I h;clear h hfz hi hx;go_enter Tryz.func85,Tryz.ntmps85;go_wp2;have hu:nN [c] w (w.setCell ⟨c,2,none⟩ (.int .i64 (wrap64 (wrap64 (x0 * 6364136223846793005)+1442695040888963407)))):=(nN.refl _ _).setCell S' _;have H1:=H.out.number (x:=wrap64 (wrap64 (x0 * 6364136223846793005)+1442695040888963407)) (aC6 _);generalize w.setCell ⟨c,2,none⟩ (.int .i64 (wrap64 (wrap64 (x0 * 6364136223846793005)+1442695040888963407))) = w1 at *;clear c0 c1 c2 cK;obtain ⟨i,x,hi,hx,c0,c1,c2,hfz⟩:=H1.cells;have hs:=H1.small;have eW:=hfz 1;have fo:=H1.lt;by_cases hk:i < n
 ·obtain ⟨k,rfl⟩:∃k:Nat,i = k:=⟨i.toNat,J⟩;obtain ⟨g,o,v,rfl,hg,hv,gN,sU⟩:=H1.byte (k:=k) J;replace H1:=I H1;go_region
  obtain ⟨y,hy,hy0,En⟩:∃y,bits BinOp.and IntKind.i64 (bits BinOp.xor IntKind.i64 (x / 8589934592) (x / 35184372088832)) 255 = y∧0≤y∧y≤255:=⟨_,rfl,PV _ 255 (by decide)⟩;simp only [hy];clear hy;go_wp2;go_region
  go_wp2;go_region
  go_wp2;go_ret
  exact ⟨_,rfl,PV _ 255 (by decide),(H1.out.LO J).drew.drew.drew,((hu.setCell S' _).drew.drew.drew)⟩
 ·replace H1:=I H1;go_region
  obtain ⟨y,hy,hy0,En⟩:∃y,bits BinOp.and IntKind.i64 (bits BinOp.xor IntKind.i64 (x / 8589934592) (x / 35184372088832)) 255 = y∧0≤y∧y≤255:=⟨_,rfl,PV _ 255 (by decide)⟩;simp only [hy];clear hy;go_wp2;go_region
  go_wp2;go_ret
  exact ⟨_,rfl,⟨hy0,En⟩,H1.out.drew.drew,hu.drew.drew⟩
theorem lO (m:Nat) (hm:0 < m∧(m:Int)≤1000000000) (w:World) (c:Nat) (A:Option Addr) (n aL:Nat) (h:cr w c A n aL) :
 Calls Tryz.prog 65 #[.pointer (some ⟨c,0,none⟩),.int .i64 m] w fun e w'=>∃r:Nat,e = .returned (.int .i64 r)∧r < m∧cr w' c A n aL∧nN [c] w w':=by
 obtain ⟨P0,nt⟩:=hm;have ap:=h.lt;have HC:=I h;clear h;by_cases hs:(m:Int)≤256
 ·go_enter Tryz.func65,Tryz.ntmps65;go_wp2_with fail
  refine (LP _ c A n aL HC.out).mono ?_;rintro e w1 ⟨r,rfl,⟨cS,fX⟩,H1,hu⟩;obtain ⟨k,rfl⟩:∃k:Nat,r = k:=⟨r.toNat,J⟩;replace H1:=I H1;go_wp2;go_ret
  exact ⟨k % m,S',Nat.mod_lt _ P0,H1.out,hu⟩
 ·go_enter Tryz.func65,Tryz.ntmps65;go_wp2_with fail
  refine (LP _ c A n aL HC.out).mono ?_;rintro e w1 ⟨r1,rfl,⟨cS,fX⟩,H1,hu1⟩;replace H1:=I H1;go_wp2_with fail
  refine (LP _ c A n aL H1.out).mono ?_;rintro e w2 ⟨r2,rfl,⟨Ul,lV⟩,H2,cR⟩;replace H2:=I H2;go_wp2_with fail
  refine (LP _ c A n aL H2.out).mono ?_;rintro e w3 ⟨r3,rfl,⟨hZ,cJ⟩,H3,b8⟩;replace H3:=I H3;go_wp2_with fail
  refine (LP _ c A n aL H3.out).mono ?_;rintro e w4 ⟨r4,rfl,⟨ht0,zR⟩,H4,Td⟩;replace H4:=I H4;go_wp2;go_ret
  obtain ⟨q,hq⟩:∃q:Nat,r1 * 16777216+r2 * 65536+r3 * 256+r4 = q:=⟨(r1 * 16777216+r2 * 65536+r3 * 256+r4).toNat,J⟩;exact ⟨q % m,(by simp [hq]),Nat.mod_lt _ P0,H4.out,(hu1.trans cR).trans (b8.trans Td)⟩
theorem Cd (m:Nat) (hm:0 < m∧(m:Int)≤1000000000) (w:World) (c:Nat) (A:Option Addr) (n aL:Nat) (h:cr w c A n aL) :
 Calls Tryz.prog 44 #[.pointer (some ⟨c,0,none⟩),.int .i64 m] w fun e w'=>∃r:Bool,e = .returned (.bool r)∧cr w' c A n aL∧nN [c] w w':=by
 have HC:=I h;clear h;have HM:=I hm;clear hm;go_enter Tryz.func44,Tryz.ntmps44;go_wp2_with fail
 refine (lO m HM.out _ c A n aL HC.out).mono ?_;rintro e w1 ⟨k,rfl,hk,H1,hu⟩;replace H1:=I H1;go_wp2;go_ret
 exact ⟨_,rfl,H1.out,hu⟩
theorem Um (S:ByteArray→Prop) (g m mc:Nat) (hm:0 < m∧(m:Int)≤1000000000) (w:World) (c:Nat) (A:Option Addr) (n aL:Nat) (h:cr w c A n aL) (hg:g≠c) (lm:g < w.heap.size) (hS:∀k,k < m→∃s,w.cell? ⟨g,k,none⟩ = some (.string s)∧S s) :
 Calls Tryz.prog 163 #[.pointer (some ⟨c,0,none⟩),.slice (some ⟨g,0,none⟩) m mc] w fun e w'=>∃s,e = .returned (.string s)∧S s∧cr w' c A n aL∧nN [c] w w':=by
 have HC:=I h;clear h;have HM:=I hm;clear hm;go_enter Tryz.func163,Tryz.ntmps163;go_wp2_with fail
 refine (lO m HM.out _ c A n aL HC.out).mono ?_;rintro e w1 ⟨k,rfl,hk,H1,hu⟩;replace H1:=I H1;obtain ⟨s,hs,cE⟩:=hS k hk;have uE:(k:Int) < m:=by omega
 have cJ:w1.cell? ⟨g,k,none⟩ = some (.string s):=by rw [← hs];exact World.cell?_of_block (hu.block g lm (by simpa using hg))
 go_wp2;go_ret
 exact ⟨_,rfl,cE,H1.out,hu⟩
theorem Un (S:Int→Prop) (g m mc:Nat) (hm:0 < m∧(m:Int)≤1000000000) (w:World) (c:Nat) (A:Option Addr) (n aL:Nat) (h:cr w c A n aL) (hg:g≠c) (lm:g < w.heap.size) (hS:∀k,k < m→∃s,w.cell? ⟨g,k,none⟩ = some (.int .i64 s)∧S s) :
 Calls Tryz.prog 114 #[.pointer (some ⟨c,0,none⟩),.slice (some ⟨g,0,none⟩) m mc] w fun e w'=>∃s,e = .returned (.int .i64 s)∧S s∧cr w' c A n aL∧nN [c] w w':=by
 have HC:=I h;clear h;have HM:=I hm;clear hm;go_enter Tryz.func114,Tryz.ntmps114;go_wp2_with fail
 refine (lO m HM.out _ c A n aL HC.out).mono ?_;rintro e w1 ⟨k,rfl,hk,H1,hu⟩;replace H1:=I H1;obtain ⟨s,hs,cE⟩:=hS k hk;have uE:(k:Int) < m:=by omega
 have cJ:w1.cell? ⟨g,k,none⟩ = some (.int .i64 s):=by rw [← hs];exact World.cell?_of_block (hu.block g lm (by simpa using hg))
 go_wp2;go_ret
 exact ⟨_,rfl,cE,H1.out,hu⟩
theorem aBW (w:World) (A:Option Addr) (n aL:Nat) (hn:(n:Int)≤1048576) (cU:∀k,k < n→∃(g o:Nat) (v:Int),A = some ⟨g,o,none⟩∧g < w.heap.size∧w.cell? ⟨g,o+k,none⟩ = some (.int .u8 v)∧0≤v∧v≤255) :
 Calls Tryz.prog 27 #[.slice A n aL] w fun e w'=>∃c,e = .returned (.pointer (some ⟨c,0,none⟩))∧w.heap.size≤c∧cr w' c A n aL∧Below w.heap.size w w':=by
 go_enter Tryz.func27,Tryz.ntmps27;go_wp2_with fail
 go_loopw [3,4] (fun x i wr=>∃(q:Int) (k:Nat),x = .int .i64 q∧i = .int .i64 k∧(0≤q∧q≤1073741823)∧k≤n∧(k:Int)≤4000∧Below w.heap.size w wr) (fun _ i _=>n - (intOf i).toNat)
 case atStart=>exact ⟨94701+n,0,sL,rfl,J,Nat.zero_le _,J,aj _⟩
 case round =>
  obtain ⟨q,k,rfl,rfl,⟨Ul,lV⟩,hkn,hk4,hb⟩:=hrel;by_cases hk:k < n
  ·obtain ⟨g,o,v,rfl,hg,hv,gN,sU⟩:=cU k hk;have hvw:wr.cell? ⟨g,o+k,none⟩ = some (.int .u8 v):=r' hb hv hg;have fJ:(n:Int)≤aL∨True:=.inr trivial;by_cases hk5:(k:Int) < 4000
   ·have LR:(k:Int) < n:=J;go_wp2;exact ⟨⟨_,k+1,rfl,N',PV _ 1073741823 (by decide),J,J,hb⟩,by simp only [intOf];omega⟩
   ·have LR:(k:Int) < n:=J;exact Iy
  ·have LR:¬(k:Int) < n:=J;exact Iy
theorem mY {w:World} {B e size n:Nat} {v:Value} {xs:List Value} (h:w.ownsRow B e size v n xs):∃A c,v = .slice A n c:=by
 exact JP
theorem EJ {w:World} {B e size n c i:Nat} {v u:Value} {xs:List Value} (h:w.ownsRow B e size v n xs) (hc:∀g,v.ownBlock = some g→g≠c):(w.setCell ⟨c,i,none⟩ u).ownsRow B e size v n xs :=
 h.kept (row:=some c) ⟨rfl,rfl,rfl,by simp [World.setCell],fun k hk cq=>Below.heap_setCell _ _ _ _ (by intro e;apply cq;rw [e])⟩ (by
   by_cases hv:v.ownBlock = some c
   ·exact absurd rfl (hc c hv)
   ·exact .inr hv)
section
variable {α:Type} [bd α]
theorem aY.PB {w w':World} {B B5 e size n:Nat} {v v':Value} {xs:List α} {ds us cs:List Value} {F G:List Nat} {x:α} (row:w.ownsRow B e size v n us) (cT:aY w B xs ds F) (cq:∀g,v.ownBlock = some g→g∉F)
 (hx:am w B5 x cs G) (h5:B≤B5) (fT:∀g,v.ownBlock = some g→g < B5) (hF:∀y∈F,y < B5) (hg:w.grownBy w' v.ownBlock) (cI:v'.ownBlock = v.ownBlock∨v'.ownBlock = some (w.heap.size+1)) :
 aY w' B (xs++[x]) (ds++cs) (F++G)∧∀g,v'.ownBlock = some g→g∉F++G:=by
 have h1:=cT.push hx h5 hF;have nf:∀g,v.ownBlock = some g→g∉F++G:=fun g hv hm=>by
  rcases List.mem_append.1 hm with hm | hm
  ·exact cq g hv hm
  ·have:=hx.base g hm;have:=fT g hv;omega
 refine ⟨h1.br (fun y hy=>hg.block y (h1.lt y hy) (fun hv=>nf y hv.symm hy)) hg.size,fun g hv hm=>?_⟩;rcases cI with cI | cI
 ·exact nf g (cI.symm.trans hv) hm
 ·have h2:=h1.lt g hm;rw [cI] at hv;injection hv with hv;omega
end
theorem Qb {P:Program} {t e:TypeId} {z:Value} {size bytes:Nat} (hE:DL P t e z size bytes) {o:Oper} {a:Act} {K:Act→World→Prop} {Q:Exit→Act→World→Prop} (s x:Operand)
 (ho:o.op = .call { callee:=.builtin .append,args:=#[s,x],argTypes:=#[t,t] })
 (w:World) (base:Nat) (v:Value) (n:Nat) (xs:List Value) (aR:w.ownsRow base e size v n xs) (hs:a.eval s = v)
 (cs:List Value) (hx:a.eval x = .slice (some ⟨w.heap.size,0,none⟩) 1 1) (hl:cs.length = size) (h1:∀u∈cs,u.oneCell' = true)
 (hn:n≤2097152) (mj:bytes≤4096) (du:base≤w.heap.size)
 (h:∀v' w',w'.ownsRow base e size v' (n+1) (xs++cs)→w.grownBy w' v.ownBlock→w.heap.size+1≤w'.heap.size→(v'.ownBlock = v.ownBlock∨v'.ownBlock = some (w.heap.size+1))→K (a.put o.dst v') w'):o.wp P a (w.alloc (.cells cs.toArray e)) K Q:=by
 obtain ⟨ht,hi0,km,eQ⟩:=hE;obtain ⟨i,hi,hz,hsize,hb⟩:=info_parts hi0;have o4:(n+1) * bytes≤2097153 * 4096:=Nat.mul_le_mul J mj;have gp:∀j u,cs[j]? = some u→(w.alloc (.cells cs.toArray e)).cell? ((⟨w.heap.size,0,none⟩:Addr).add j) = some u:=by exact qn
 obtain ⟨v',w',hr,h2,h3,h4,h5⟩:=run_append_own_at (P:=P) (w.alloc (.cells cs.toArray e)) base t o.type e i z size bytes ht hi hz hsize hb km eQ v n xs (aR.alloc _) ⟨w.heap.size,0,none⟩ 1 1 cs J gp h1 ja J (by simp;omega);unfold Oper.wp execOp;simp only [ho,resolve,invoke,builtin,Sem.run_bind,Sem.run_pure,Result.andThen_ok,List.map_toArray,List.map_cons,List.map_nil,hs,hx,hr];refine h v' w' h2 ⟨h3.os,h3.tape,h3.output,Nat.le_trans S' h3.size,fun k hk cq=>?_⟩ (by have:=h3.size;simpa using this) (by simpa using h5);rw [h3.block k (by simp;omega) cq];exact Below.heap_alloc _ _ _ hk
theorem rW {α:Type} [bd α] {P:Program} {t e:TypeId} {z:Value} {size bytes:Nat} (hE:DL P t e z size bytes) (hd:bd.size α = size) {ops:Array Oper} {rest:List Oper} {o:Oper} {a:Act} {Q:Exit→Act→World→Prop} (sM:o.guard = none) (s x:Operand)
 (ho:o.op = .call { callee:=.builtin .append,args:=#[s,x],argTypes:=#[t,t] })
 (w:World) (base:Nat) (v:Value) (n:Nat) (xs:List Value) (aR:w.ownsRow base e size v n xs) (hs:a.eval s = v)
 (ys:List α) (A:Option Addr) (c:Nat) (F:List Nat) (nr:Sl w ys A c F) (hx:a.eval x = .slice A ys.length c)
 (hn:n+ys.length≤2097152) (mj:bytes≤4096) (du:base≤w.heap.size)
 (h:∀v' w' ds G,jo w ys ds G→(∀b∈G,b∈F)→w'.ownsRow base e size v' (n+ys.length) (xs++ds)→w.grownBy w' v.ownBlock→(v'.ownBlock = v.ownBlock∨v'.ownBlock = some w.heap.size)→wpList P ops Q rest (a.put o.dst v') w'):wpList P ops Q (o :: rest) a w:=by
 subst hd;obtain ⟨ht,hi0,km,eQ⟩:=hE;obtain ⟨i,hi,hz,hsize,hb⟩:=info_parts hi0;have o4:(n+ys.length) * bytes≤2097152 * 4096:=Nat.mul_le_mul hn mj;obtain ⟨A',c',G,ds,e0,h1,h2,hc,h0⟩:=nr;simp only [List.cons.injEq,Value.slice.injEq,and_true,true_and] at e0;obtain ⟨rfl,rfl⟩:=e0;have wg:∀(ad:Addr),A = some ad→(∀j u,ds[j]? = some u→w.cell? (ad.add j) = some u)→wpList P ops Q (o :: rest) a w:=by
  intro ad hA cj;subst hA;have hG:∀b∈G,b∈F:=by
   rcases h0 with ⟨rfl,rfl⟩ | ⟨b,o',_,rfl,_⟩
   ·rw [hc.2];intro b hb;cases hb
   ·intro x hx;exact List.mem_cons_of_mem _ hx
  exact wpList_append_own_at w sM s x t ho base e i z (bd.size α) bytes ht hi hz hsize hb km eQ v n xs hs aR ad ys.length c ds hx hc.len cj hc.one ja J du (fun v' w' mb hg _ cI=>h v' w' ds G hc hG mb hg cI)
 rcases h0 with ⟨rfl,rfl⟩ | ⟨b,o',hA,rfl,hb,cj⟩
 ·obtain ⟨rfl,rfl⟩:=hc;cases A with
  | some ad=>exact wg ad rfl (fun j u hu=>by simp at hu)
  | none =>
    have K1:∀(A2:Option Addr) (aL:Nat),v = .slice A2 n aL→n≤aL→wpList P ops Q (o :: rest) a w:=by intro A2 aL hv fp;refine wpList_plain sM fun K hK=>?_;have hr:=run_append_nothing (P:=P) w t t o.type e i ht hi A2 n aL fp (.slice none 0 c) (Src.ofNil w ht c);unfold Oper.wp execOp;simp only [ho,resolve,invoke,builtin,Sem.run_bind,Sem.run_pure,Result.andThen_ok,List.map_toArray,List.map_cons,List.map_nil,hs,hv,hx,List.length_nil,hr];refine hK _ _ ?_;subst hv;exact h _ w [] [] ⟨rfl,rfl⟩ (fun b hb=>hb) (by simpa using aR) ⟨rfl,rfl,rfl,Nat.le_refl _,fun _ _ _=>rfl⟩ (.inl rfl)
    rcases aR.2 with ⟨hv,Bf⟩ | ⟨g,aL,b5,hv,_,_,fp,_⟩
    ·exact K1 none 0 (by rw [hv,Bf]) J
    ·exact K1 _ aL hv fp
 ·refine wg _ hA fun j u hu=>?_;rw [show (⟨b,o',none⟩:Addr).add j = ⟨b,o'+j,none⟩ from by unfold Addr.add;split <;> simp_all];exact cj j u hu
section
variable {α:Type} [bd α] {w:World}
theorem K2 (hf:∀{w:World} {x:α} {cs:List Value} {F:List Nat},rd w x cs F→F = []):∀{xs:List α} {ds:List Value} {F:List Nat},jo w xs ds F→F = []
 | [],_,_,h=>h.2
 | x :: xs,_,_,⟨c1,c2,F1,F2,_,rfl,h1,h2⟩=>by rw [hf h1,K2 hf h2];rfl
theorem am.dd {B:Nat} {e:TypeId} {v:Value} {xs:List α} {ds:List Value} {F:List Nat} (hf:∀{w:World} {x:α} {cs:List Value} {F:List Nat},Go.Proofs.YtjahcnjmjahbaaaGreat.bd.rd w x cs F→F = []) (h0:w.ownsRow B e (bd.size α) v xs.length ds) (h:jo w xs ds F) :
 ∃A c G,v = .slice A xs.length c∧am w B xs [.slice A xs.length c] G:=by
 obtain rfl:=K2 hf h;exact am.oJ h0 ⟨h,List.nodup_nil,(fun b hb=>by cases hb),(fun b hb=>by cases hb)⟩ (fun g _ hm=>by cases hm)
end
theorem eC.oJ {w:World} {B e size n:Nat} {v:Value} {ds:List Value} (h:w.ownsRow B e size v n ds):(v = .slice none 0 0∧n = 0)∨∃g aL N,v = .slice (some ⟨g,0,none⟩) n aL∧B≤g∧eC w g e N ds∧n≤aL∧aL≤maxLen:=by
 rcases h with ⟨hl,h | ⟨g,aL,b5,rfl,hb,hh,fp,hm,cT,ht⟩⟩
 ·exact .inl h
 ·refine .inr ⟨g,aL,b5.size,rfl,hb,⟨b5,hh,rfl,?_,fun j u hu=>?_⟩,fp,hm⟩
  ·rw [hl,cT];exact Nat.mul_le_mul_right _ fp
  ·exact zb
theorem eC.set {w:World} {g:Nat} {t:TypeId} {N:Nat} {ds:List Value} (h:eC w g t N ds) {i:Nat} (hi:i < ds.length) (u:Value):eC (w.setCell ⟨g,i,none⟩ u) g t N (ds.set i u):=by
 obtain ⟨cs,h,rfl,hl,hc⟩:=h;refine ⟨cs.setIfInBounds i u,?_,S',by simpa using hl,fun j v hv=>?_⟩
 ·simp [World.setCell,Array.getElem?_modify,h]
 ·by_cases hj:i = j
  ·subst hj;rw [List.getElem?_set_self hi] at hv;cases hv
   rw [Array.getElem?_setIfInBounds_self_of_lt J]
  ·rw [List.getElem?_set_ne hj] at hv;rw [Array.getElem?_setIfInBounds_ne hj];exact hc j v hv
theorem eC.gj {w:World} {g:Nat} {t:TypeId} {N:Nat} {ds:List Value} (h:eC w g t N ds) {j:Nat} {u:Value} (hj:ds[j]? = some u):w.cell? ⟨g,j,none⟩ = some u:=by have:=h.cells j u hj;simpa using this
end Go.Proofs.YtjahcnjmjahbaaaGreat
