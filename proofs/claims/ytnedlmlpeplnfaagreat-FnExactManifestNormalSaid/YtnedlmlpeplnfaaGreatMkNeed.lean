/- Marks on Need. -/
import Derived.Test.YtnedlmlpeplnfaaGreatDelP
import Derived.Test.YtnedlmlpeplnfaaGreatData
namespace Go.Proofs.YtnedlmlpeplnfaaGreat
open Go.ChangeShapes Go.WideShapes Go.ChangeAt Go.RowKit
set_option linter.unusedVariables false
set_option linter.unusedSimpArgs false
set_option maxHeartbeats 2000000
set_option maxRecDepth 100000
def H9 (x:Need) (k:Int):Need:={ key:=lZ (k),op:=(k+1),values:=EX mkStr nU x.values (k+1+1) }
def fZ (x:Need):Nat:=1+1+cO nU x.values
theorem ZP (xs:List Need) (A:Option Addr) (n c:Nat) (F:List Nat) (B:Nat) (k:Int) (w:World) (h:Own w B xs [.slice A n c] F) (hn:n = xs.length) (hk0:0≤k) (hk:k+cO fZ xs≤1073741823) :
 Calls Tryz.prog 67 #[.slice A n c,.int .i64 k] w fun e w'=>e = .returned (.int .i64 (k+cO fZ xs))∧Own w' B (EX H9 fZ xs k) [.slice A n c] F∧nN F w w':=by
 subst hn;have hlen:=YV h;go_enter Tryz.func67,Tryz.ntmps67;go_wp2_with fail
 go_loopw [1,5] (fun x y wr=>∃(i:Nat),i≤xs.length∧y = .int .i64 i∧x = .int .i64 (k+cO fZ (xs.take i))∧Own wr B (Jd H9 fZ xs k i) [.slice A xs.length c] F∧nN F w wr) (fun _ y _=>xs.length - (intOf y).toNat)
 case atStart=>exact ⟨0,Nat.zero_le _,rfl,by simp [cO],by rw [Kr];exact h,.refl _ _⟩
 case round =>
  obtain ⟨i,hi,rfl,rfl,hO,hu⟩:=hrel;by_cases hlt:i < xs.length
  ·have hle:(cO fZ (xs.take i):Int)+fZ xs[i]≤cO fZ xs:=(by have:=lU (cnt:=fZ) hlt;have:=EG (cnt:=fZ) xs (i+1);omega);have JQ:=lU (cnt:=fZ) hlt;obtain ⟨b,o,ck,Fk,rfl,o9,hsub,hbk,LM,hE,hcl⟩:=hO.elt (k:=i) au9;rw [Oj hlt] at LM;have hRe:=LM.rd;obtain ⟨jy,ji,Bo,hck,su,hkey,hop,kV⟩:=og hRe;clear hRe;subst hck su;have zZ:Own wr B xs[i].values [.slice jy xs[i].values.length ji] Fk:=⟨kV,LM.nodup,fun y hy=>LM.base y (by simp [hy]),fun y hy=>LM.plain y (by simp [hy])⟩;have agK:b∉Fk:=fun hb=>hbk (by simp [hb]);generalize hkk:k+(cO fZ (xs.take i):Int) = kk;have aaJ:0≤kk:=O';have Ei:kk+fZ xs[i]≤1073741823:=O';simp only [fZ] at Ei;push_cast at Ei;clear hO;have q0:=hE.at_ (q:=o+i * 3) (j:=0) ava rfl;have z0:=hE.plain.frozen (o+i * 3);have q1:=hE.at_ (q:=o+i * 3+1) (j:=1) avb rfl;have z1:=hE.plain.frozen (o+i * 3+1);have q2:=hE.at_ (q:=o+i * 3+2) (j:=2) avn rfl;have z2:=hE.plain.frozen (o+i * 3+2);go_wp2_with fail
   clear q0 z0 q1 z1 q2 z2;refine (lW (kk) _ O' O').mono ?_;rintro e w1 ⟨rfl,hb1⟩;replace hE:=hE.ext hb1;replace zZ:=zZ.ext hb1;have q0:=hE.at_ (q:=o+i * 3) (j:=0) ava rfl;have z0:=hE.plain.frozen (o+i * 3);have q1:=hE.at_ (q:=o+i * 3+1) (j:=1) avb rfl;have z1:=hE.plain.frozen (o+i * 3+1);have q2:=hE.at_ (q:=o+i * 3+2) (j:=2) avn rfl;have z2:=hE.plain.frozen (o+i * 3+2);go_wp2_with fail
   clear q0 z0 q1 z1 q2 z2;replace hE:=hE.set (j:=0) (q:=o+i * 3) S' ava (.string (lZ (kk)));simp only [List.set_cons_zero,List.set_cons_succ] at hE;replace zZ:=zZ.JA (p:=⟨b,o+i * 3,none⟩) agK (.string (lZ (kk)));replace hE:=hE.set (j:=1) (q:=o+i * 3+1) S' avb (.int .i64 (kk+1));simp only [List.set_cons_zero,List.set_cons_succ] at hE;replace zZ:=zZ.JA (p:=⟨b,o+i * 3+1,none⟩) agK (.int .i64 (kk+1));refine (Dy xs[i].values _ _ _ _ _ (kk+1+1) _ zZ rfl O' O').mono ?_;rintro e w2 ⟨rfl,agL,X0⟩;replace hE:=hE.step X0 (fun y hy=>by simp [hy]) agK;replace zZ:=agL;have q0:=hE.at_ (q:=o+i * 3) (j:=0) ava rfl;have z0:=hE.plain.frozen (o+i * 3);have q1:=hE.at_ (q:=o+i * 3+1) (j:=1) avb rfl;have z1:=hE.plain.frozen (o+i * 3+1);have q2:=hE.at_ (q:=o+i * 3+2) (j:=2) avn rfl;have z2:=hE.plain.frozen (o+i * 3+2);go_wp2_with fail
   clear q0 z0 q1 z1 q2 z2;have hP:=hcl _ (H9 xs[i] kk) _ ⟨(by have:=(nJ (rdStr w2 (lZ (kk)) (NI O')) (nJ (jL w2 ((kk+1)) auG) (zZ.rd)));simp only [List.nil_append,List.append_nil,List.append_assoc,List.cons_append] at this;exact this),LM.nodup,LM.base,(by intro y hy;(try simp only [List.mem_append] at hy);rcases hy with hy;exact zZ.plain y hy)⟩ hE;have hU:=hu.trans (hE.upd.mono (G:=F) (fun y hy=>by rcases List.mem_cons.1 hy with rfl | hy;exact o9;exact hsub y hy));have hset:(Jd H9 fZ xs k i).set i (H9 xs[i] kk) = Jd H9 fZ xs k (i+1):=(by rw [← hkk];exact Ol hlt);rw [hset] at hP;refine ⟨⟨i+1,O',N',?_,hP,hU⟩,by simp [intOf];omega⟩;rw [JQ];simp only [fZ];congr 1;push_cast;omega
  ·exact Zabh
theorem ZQ (xs:List Need) (A:Option Addr) (n c:Nat) (F:List Nat) (k:Int) (w:World) (h:rd w xs [.slice A n c] F) (hn:n = xs.length) (hm:EX H9 fZ xs k = xs) (hk0:0≤k) (hk:k+cO fZ xs≤1073741823) :
 Calls Tryz.prog 71 #[.slice A n c,.int .i64 k] w fun e w'=>e = .returned (.int .i64 (k+cO fZ xs))∧Below w.heap.size w w':=by
 subst hn;have hlen:=ade h;have HM:=I' hm;clear hm;go_enter Tryz.func71,Tryz.ntmps71;go_wp2_with fail
 go_loopw [1,5] (fun x y wr=>∃(i:Nat),i≤xs.length∧y = .int .i64 i∧x = .int .i64 (k+cO fZ (xs.take i))∧Below w.heap.size w wr) (fun _ y _=>xs.length - (intOf y).toNat)
 case atStart=>exact ⟨0,Nat.zero_le _,rfl,by simp [cO],aj _⟩
 case round =>
  obtain ⟨i,hi,rfl,rfl,hbl⟩:=hrel;by_cases hlt:i < xs.length
  ·have hle:(cO fZ (xs.take i):Int)+fZ xs[i]≤cO fZ xs:=(by have:=lU (cnt:=fZ) hlt;have:=EG (cnt:=fZ) xs (i+1);omega);have JQ:=lU (cnt:=fZ) hlt;have hfix:=PK HM.out hlt;obtain ⟨b,o,ck,Fk,rfl,o9,hbs,hr,hsub,hc⟩:=(Sl.ext (w':=wr) (A:=A) (c:=c) h hbl).get hlt;obtain ⟨jy,ji,Bo,hck,su,hkey,hop,kV⟩:=og hr;clear hr;subst hck;generalize hkk:k+(cO fZ (xs.take i):Int) = kk at hfix ⊢;have aaJ:0≤kk:=O';have Ei:kk+fZ xs[i]≤1073741823:=O';simp only [fZ] at Ei;push_cast at Ei;have e0:lZ (kk) = xs[i].key:=congrArg (fun z:Need=>z.key) hfix;have q0:wr.cell? ⟨b,o+i * 3,none⟩ = some (.string xs[i].key):=(by have:=hc 0 _ rfl;rwa [show o+(i * Dat.size Need+0) = o+i * 3 from by show o+(i * 3+0) = _;omega] at this);rw [← e0] at q0;clear e0;have e1:(kk+1) = xs[i].op:=congrArg (fun z:Need=>z.op) hfix;have q1:wr.cell? ⟨b,o+i * 3+1,none⟩ = some (.int .i64 xs[i].op):=(by have:=hc 1 _ rfl;rwa [show o+(i * Dat.size Need+1) = o+i * 3+1 from by show o+(i * 3+1) = _;omega] at this);rw [← e1] at q1;clear e1;have e2:EX mkStr nU xs[i].values (kk+1+1) = xs[i].values:=congrArg (fun z:Need=>z.values) hfix;have q2:wr.cell? ⟨b,o+i * 3+2,none⟩ = some (.slice jy xs[i].values.length ji):=(by have:=hc 2 _ rfl;rwa [show o+(i * Dat.size Need+2) = o+i * 3+2 from by show o+(i * 3+2) = _;omega] at this);clear hc hfix;go_wp2_with fail
   refine aF wr U' U' (aj _) ?_
   repeat (first
    | (apply aG
       case hw=>rfl
       simp only [Act.put,pz])
    | (apply aH
       case hw=>rfl
       case h =>exact Zaax
       simp only [Act.put,pz]))
   refine aN ?_;intro wn1 hn1;replace hn1:=hn1.out;replace q0:=((ay hn1).1 b _ hbs).trans q0;replace q1:=((ay hn1).1 b _ hbs).trans q1;replace q2:=((ay hn1).1 b _ hbs).trans q2;replace kV:=Sl.ext kV hn1;replace hbs:=Nat.lt_of_lt_of_le hbs hn1.size;replace hbl:=ah hbl hn1;go_wp2_with fail
   refine (uy xs[i].values _ _ _ _ (kk+1+1) _ kV rfl e2 O' O').mono ?_;rintro e wn2 ⟨rfl,hn2⟩;replace q0:=((ay hn2).1 b _ hbs).trans q0;replace q1:=((ay hn2).1 b _ hbs).trans q1;replace q2:=((ay hn2).1 b _ hbs).trans q2;replace kV:=Sl.ext kV hn2;replace hbs:=Nat.lt_of_lt_of_le hbs hn2.size;replace hbl:=ah hbl hn2;go_wp2;refine ⟨⟨i+1,O',N',?_,hbl⟩,by simp [intOf];omega⟩;rw [JQ];simp only [fZ];congr 1;push_cast;omega
  ·exact Zabs
def D8 (x:iU) (k:Int):iU:={ key:=lZ (k),value:=lZ (k+1),effect:=(k+1+1) }
def kC (x:iU):Nat:=1+1+1
theorem XU (xs:List iU) (A:Option Addr) (n c:Nat) (F:List Nat) (B:Nat) (k:Int) (w:World) (h:Own w B xs [.slice A n c] F) (hn:n = xs.length) (hk0:0≤k) (hk:k+cO kC xs≤1073741823) :
 Calls Tryz.prog 69 #[.slice A n c,.int .i64 k] w fun e w'=>e = .returned (.int .i64 (k+cO kC xs))∧Own w' B (EX D8 kC xs k) [.slice A n c] F∧nN F w w':=by
 subst hn;have hlen:=YV h;go_enter Tryz.func69,Tryz.ntmps69;go_wp2_with fail
 go_loopw [1,5] (fun x y wr=>∃(i:Nat),i≤xs.length∧y = .int .i64 i∧x = .int .i64 (k+cO kC (xs.take i))∧Own wr B (Jd D8 kC xs k i) [.slice A xs.length c] F∧nN F w wr) (fun _ y _=>xs.length - (intOf y).toNat)
 case atStart=>exact ⟨0,Nat.zero_le _,rfl,by simp [cO],by rw [Kr];exact h,.refl _ _⟩
 case round =>
  obtain ⟨i,hi,rfl,rfl,hO,hu⟩:=hrel;by_cases hlt:i < xs.length
  ·have hle:(cO kC (xs.take i):Int)+kC xs[i]≤cO kC xs:=(by have:=lU (cnt:=kC) hlt;have:=EG (cnt:=kC) xs (i+1);omega);have JQ:=lU (cnt:=kC) hlt;obtain ⟨b,o,ck,Fk,rfl,o9,hsub,hbk,LM,hE,hcl⟩:=hO.elt (k:=i) au9;rw [Oj hlt] at LM;have hRe:=LM.rd;obtain ⟨hck,su,hkey,kP,lD⟩:=oK hRe;clear hRe;subst hck su;generalize hkk:k+(cO kC (xs.take i):Int) = kk;have aaJ:0≤kk:=O';have Ei:kk+kC xs[i]≤1073741823:=O';simp only [kC] at Ei;push_cast at Ei;clear hO;have q0:=hE.at_ (q:=o+i * 3) (j:=0) ava rfl;have z0:=hE.plain.frozen (o+i * 3);have q1:=hE.at_ (q:=o+i * 3+1) (j:=1) avb rfl;have z1:=hE.plain.frozen (o+i * 3+1);have q2:=hE.at_ (q:=o+i * 3+2) (j:=2) avn rfl;have z2:=hE.plain.frozen (o+i * 3+2);go_wp2_with fail
   clear q0 z0 q1 z1 q2 z2;refine (lW (kk) _ O' O').mono ?_;rintro e w1 ⟨rfl,hb1⟩;replace hE:=hE.ext hb1;have q0:=hE.at_ (q:=o+i * 3) (j:=0) ava rfl;have z0:=hE.plain.frozen (o+i * 3);have q1:=hE.at_ (q:=o+i * 3+1) (j:=1) avb rfl;have z1:=hE.plain.frozen (o+i * 3+1);have q2:=hE.at_ (q:=o+i * 3+2) (j:=2) avn rfl;have z2:=hE.plain.frozen (o+i * 3+2);go_wp2_with fail
   clear q0 z0 q1 z1 q2 z2;replace hE:=hE.set (j:=0) (q:=o+i * 3) S' ava (.string (lZ (kk)));simp only [List.set_cons_zero,List.set_cons_succ] at hE;refine (lW (kk+1) _ O' O').mono ?_;rintro e w2 ⟨rfl,hb2⟩;replace hE:=hE.ext hb2;have q0:=hE.at_ (q:=o+i * 3) (j:=0) ava rfl;have z0:=hE.plain.frozen (o+i * 3);have q1:=hE.at_ (q:=o+i * 3+1) (j:=1) avb rfl;have z1:=hE.plain.frozen (o+i * 3+1);have q2:=hE.at_ (q:=o+i * 3+2) (j:=2) avn rfl;have z2:=hE.plain.frozen (o+i * 3+2);go_wp2_with fail
   clear q0 z0 q1 z1 q2 z2;replace hE:=hE.set (j:=1) (q:=o+i * 3+1) S' avb (.string (lZ (kk+1)));simp only [List.set_cons_zero,List.set_cons_succ] at hE;replace hE:=hE.set (j:=2) (q:=o+i * 3+2) S' avn (.int .i64 (kk+1+1));simp only [List.set_cons_zero,List.set_cons_succ] at hE;have hP:=hcl _ (D8 xs[i] kk) _ ⟨(by have:=(nJ (rdStr ((w2.setCell ⟨b,o+i * 3+1,none⟩ (.string (lZ (kk+1)))).setCell ⟨b,o+i * 3+2,none⟩ (.int .i64 (kk+1+1))) (lZ (kk)) (NI O')) (nJ (rdStr ((w2.setCell ⟨b,o+i * 3+1,none⟩ (.string (lZ (kk+1)))).setCell ⟨b,o+i * 3+2,none⟩ (.int .i64 (kk+1+1))) (lZ (kk+1)) (NI O')) (jL ((w2.setCell ⟨b,o+i * 3+1,none⟩ (.string (lZ (kk+1)))).setCell ⟨b,o+i * 3+2,none⟩ (.int .i64 (kk+1+1))) ((kk+1+1)) auG)));simp only [List.nil_append,List.append_nil,List.append_assoc,List.cons_append] at this;exact this),LM.nodup,LM.base,(by intro y hy;cases hy)⟩ hE;have hU:=hu.trans (hE.upd.mono (G:=F) (fun y hy=>by rcases List.mem_cons.1 hy with rfl | hy;exact o9;exact hsub y hy));have hset:(Jd D8 kC xs k i).set i (D8 xs[i] kk) = Jd D8 kC xs k (i+1):=(by rw [← hkk];exact Ol hlt);rw [hset] at hP;refine ⟨⟨i+1,O',N',?_,hP,hU⟩,by simp [intOf];omega⟩;rw [JQ];simp only [kC];congr 1;push_cast;omega
  ·exact Zabh
theorem XV (xs:List iU) (A:Option Addr) (n c:Nat) (F:List Nat) (k:Int) (w:World) (h:rd w xs [.slice A n c] F) (hn:n = xs.length) (hm:EX D8 kC xs k = xs) (hk0:0≤k) (hk:k+cO kC xs≤1073741823) :
 Calls Tryz.prog 73 #[.slice A n c,.int .i64 k] w fun e w'=>e = .returned (.int .i64 (k+cO kC xs))∧Below w.heap.size w w':=by
 subst hn;have hlen:=ade h;have HM:=I' hm;clear hm;go_enter Tryz.func73,Tryz.ntmps73;go_wp2_with fail
 go_loopw [1,5] (fun x y wr=>∃(i:Nat),i≤xs.length∧y = .int .i64 i∧x = .int .i64 (k+cO kC (xs.take i))∧Below w.heap.size w wr) (fun _ y _=>xs.length - (intOf y).toNat)
 case atStart=>exact ⟨0,Nat.zero_le _,rfl,by simp [cO],aj _⟩
 case round =>
  obtain ⟨i,hi,rfl,rfl,hbl⟩:=hrel;by_cases hlt:i < xs.length
  ·have hle:(cO kC (xs.take i):Int)+kC xs[i]≤cO kC xs:=(by have:=lU (cnt:=kC) hlt;have:=EG (cnt:=kC) xs (i+1);omega);have JQ:=lU (cnt:=kC) hlt;have hfix:=PK HM.out hlt;obtain ⟨b,o,ck,Fk,rfl,o9,hbs,hr,hsub,hc⟩:=(Sl.ext (w':=wr) (A:=A) (c:=c) h hbl).get hlt;obtain ⟨hck,su,hkey,kP,lD⟩:=oK hr;clear hr;subst hck;generalize hkk:k+(cO kC (xs.take i):Int) = kk at hfix ⊢;have aaJ:0≤kk:=O';have Ei:kk+kC xs[i]≤1073741823:=O';simp only [kC] at Ei;push_cast at Ei;have e0:lZ (kk) = xs[i].key:=congrArg (fun z:iU=>z.key) hfix;have q0:wr.cell? ⟨b,o+i * 3,none⟩ = some (.string xs[i].key):=(by have:=hc 0 _ rfl;rwa [show o+(i * Dat.size iU+0) = o+i * 3 from by show o+(i * 3+0) = _;omega] at this);rw [← e0] at q0;clear e0;have e1:lZ (kk+1) = xs[i].value:=congrArg (fun z:iU=>z.value) hfix;have q1:wr.cell? ⟨b,o+i * 3+1,none⟩ = some (.string xs[i].value):=(by have:=hc 1 _ rfl;rwa [show o+(i * Dat.size iU+1) = o+i * 3+1 from by show o+(i * 3+1) = _;omega] at this);rw [← e1] at q1;clear e1;have e2:(kk+1+1) = xs[i].effect:=congrArg (fun z:iU=>z.effect) hfix;have q2:wr.cell? ⟨b,o+i * 3+2,none⟩ = some (.int .i64 xs[i].effect):=(by have:=hc 2 _ rfl;rwa [show o+(i * Dat.size iU+2) = o+i * 3+2 from by show o+(i * 3+2) = _;omega] at this);rw [← e2] at q2;clear e2;clear hc hfix;go_wp2_with fail
   refine aF wr U' U' (aj _) ?_
   repeat (first
    | (apply aG
       case hw=>rfl
       simp only [Act.put,pz])
    | (apply aH
       case hw=>rfl
       case h =>exact Zaax
       simp only [Act.put,pz]))
   refine aN ?_;intro wn1 hn1;replace hn1:=hn1.out;replace q0:=((ay hn1).1 b _ hbs).trans q0;replace q1:=((ay hn1).1 b _ hbs).trans q1;replace q2:=((ay hn1).1 b _ hbs).trans q2;replace hbs:=Nat.lt_of_lt_of_le hbs hn1.size;replace hbl:=ah hbl hn1;go_wp2_with fail
   refine aF wn1 U' U' (aj _) ?_
   repeat (first
    | (apply aG
       case hw=>rfl
       simp only [Act.put,pz])
    | (apply aH
       case hw=>rfl
       case h =>exact Zabw
       simp only [Act.put,pz]))
   refine aN ?_;intro wn2 hn2;replace hn2:=hn2.out;replace q0:=((ay hn2).1 b _ hbs).trans q0;replace q1:=((ay hn2).1 b _ hbs).trans q1;replace q2:=((ay hn2).1 b _ hbs).trans q2;replace hbs:=Nat.lt_of_lt_of_le hbs hn2.size;replace hbl:=ah hbl hn2;go_wp2;refine ⟨⟨i+1,O',N',?_,hbl⟩,by simp [intOf];omega⟩;rw [JQ];simp only [kC];congr 1;push_cast;omega
  ·exact Zabs
end Go.Proofs.YtnedlmlpeplnfaaGreat
