/- Marks on Label. -/
import Derived.Test.YtogkjlcoadhpgaaGreatMkBase
import Derived.Test.YtogkjlcoadhpgaaGreatWordsS
namespace Go.Proofs.YtogkjlcoadhpgaaGreat
open Go.ChangeShapes Go.WideShapes Go.ChangeAt Go.RowKit
set_option linter.unusedVariables false
set_option linter.unusedSimpArgs false
def xP (x:Label) (k:Int):Label:={ key:=lZ (k),value:=lZ (k+1) }
def bC (x:Label):Nat:=1+1
set_option maxRecDepth 100000 in
set_option maxHeartbeats 2000000 in
theorem H7 (xs:List Label) (A:Option Addr) (n c:Nat) (F:List Nat) (B:Nat) (k:Int) (w:World) (h:Own w B xs [.slice A n c] F) (hn:n = xs.length) (hk0:0≤k) (hk:k+cO bC xs≤1073741823) :
 Calls Tryz.prog 63 #[.slice A n c,.int .i64 k] w fun e w'=>e = .returned (.int .i64 (k+cO bC xs))∧Own w' B (EX xP bC xs k) [.slice A n c] F∧nN F w w':=by
 subst hn
 have hlen:=YV h
 go_enter Tryz.func63,Tryz.ntmps63
 go_wp2_with fail
 go_loopw [1,5] (fun x y wr=>∃(i:Nat),i≤xs.length∧y = .int .i64 i∧x = .int .i64 (k+cO bC (xs.take i))∧Own wr B (Jd xP bC xs k i) [.slice A xs.length c] F∧nN F w wr) (fun _ y _=>xs.length - (intOf y).toNat)
 case atStart=>exact ⟨0,Nat.zero_le _,rfl,by simp [cO],by rw [Kr];exact h,.refl _ _⟩
 case round =>
  obtain ⟨i,hi,rfl,rfl,hO,hu⟩:=hrel
  by_cases hlt:i < xs.length
  ·have hle:(cO bC (xs.take i):Int)+bC xs[i]≤cO bC xs:=by have:=lU (cnt:=bC) hlt;have:=EG (cnt:=bC) xs (i+1);omega
   have JQ:=lU (cnt:=bC) hlt
   obtain ⟨b,o,ck,Fk,rfl,o9,hsub,hbk,LM,hE,hcl⟩:=hO.elt (k:=i) au9
   rw [Oj hlt] at LM
   have hRe:=LM.rd
   obtain ⟨hck,su,hkey,kP⟩:=vO hRe
   clear hRe
   subst hck su
   generalize hkk:k+(cO bC (xs.take i):Int) = kk
   have aaJ:0≤kk:=by omega
   have Ei:kk+bC xs[i]≤1073741823:=by omega
   simp only [bC] at Ei
   push_cast at Ei
   clear hO
   have q0:=hE.at_ (q:=o+i * 2) (j:=0) awm rfl
   have z0:=hE.plain.frozen (o+i * 2)
   have q1:=hE.at_ (q:=o+i * 2+1) (j:=1) awn rfl
   have z1:=hE.plain.frozen (o+i * 2+1)
   go_wp2_with fail
   clear q0 z0 q1 z1
   refine (lW (kk) _ (by omega) (by omega)).mono ?_
   rintro e w1 ⟨rfl,hb1⟩
   replace hE:=hE.ext hb1
   have q0:=hE.at_ (q:=o+i * 2) (j:=0) awm rfl
   have z0:=hE.plain.frozen (o+i * 2)
   have q1:=hE.at_ (q:=o+i * 2+1) (j:=1) awn rfl
   have z1:=hE.plain.frozen (o+i * 2+1)
   go_wp2_with fail
   clear q0 z0 q1 z1
   replace hE:=hE.set (j:=0) (q:=o+i * 2) (by simp) awm (.string (lZ (kk)))
   simp only [List.set_cons_zero,List.set_cons_succ] at hE
   refine (lW (kk+1) _ (by omega) (by omega)).mono ?_
   rintro e w2 ⟨rfl,hb2⟩
   replace hE:=hE.ext hb2
   have q0:=hE.at_ (q:=o+i * 2) (j:=0) awm rfl
   have z0:=hE.plain.frozen (o+i * 2)
   have q1:=hE.at_ (q:=o+i * 2+1) (j:=1) awn rfl
   have z1:=hE.plain.frozen (o+i * 2+1)
   go_wp2_with fail
   clear q0 z0 q1 z1
   replace hE:=hE.set (j:=1) (q:=o+i * 2+1) (by simp) awn (.string (lZ (kk+1)))
   simp only [List.set_cons_zero,List.set_cons_succ] at hE
   have hP:=hcl _ (xP xs[i] kk) _ ⟨(by have:=(nJ (rdStr (w2.setCell ⟨b,o+i * 2+1,none⟩ (.string (lZ (kk+1)))) (lZ (kk)) (NI (by omega))) (rdStr (w2.setCell ⟨b,o+i * 2+1,none⟩ (.string (lZ (kk+1)))) (lZ (kk+1)) (NI (by omega))));simp only [List.nil_append,List.append_nil,List.append_assoc,List.cons_append] at this;exact this),LM.nodup,LM.base,(by intro y hy;cases hy)⟩ hE
   have hU:=hu.trans (hE.upd.mono (G:=F) (fun y hy=>by rcases List.mem_cons.1 hy with rfl | hy;exact o9;exact hsub y hy))
   have hset:(Jd xP bC xs k i).set i (xP xs[i] kk) = Jd xP bC xs k (i+1):=by rw [← hkk];exact Ol hlt
   rw [hset] at hP
   refine ⟨⟨i+1,by omega,by go_num,?_,hP,hU⟩,by simp [intOf];omega⟩
   rw [JQ];simp only [bC];congr 1;push_cast;omega
  ·exact Zabq
set_option maxRecDepth 100000 in
set_option maxHeartbeats 2000000 in
theorem ER (xs:List Label) (A:Option Addr) (n c:Nat) (F:List Nat) (k:Int) (w:World) (h:rd w xs [.slice A n c] F) (hn:n = xs.length) (hm:EX xP bC xs k = xs) (hk0:0≤k) (hk:k+cO bC xs≤1073741823) :
 Calls Tryz.prog 67 #[.slice A n c,.int .i64 k] w fun e w'=>e = .returned (.int .i64 (k+cO bC xs))∧Below w.heap.size w w':=by
 subst hn
 have hlen:=ade h
 have HM:=Lib.hid hm
 clear hm
 go_enter Tryz.func67,Tryz.ntmps67
 go_wp2_with fail
 go_loopw [1,5] (fun x y wr=>∃(i:Nat),i≤xs.length∧y = .int .i64 i∧x = .int .i64 (k+cO bC (xs.take i))∧Below w.heap.size w wr) (fun _ y _=>xs.length - (intOf y).toNat)
 case atStart=>exact ⟨0,Nat.zero_le _,rfl,by simp [cO],aj _⟩
 case round =>
  obtain ⟨i,hi,rfl,rfl,hbl⟩:=hrel
  by_cases hlt:i < xs.length
  ·have hle:(cO bC (xs.take i):Int)+bC xs[i]≤cO bC xs:=by have:=lU (cnt:=bC) hlt;have:=EG (cnt:=bC) xs (i+1);omega
   have JQ:=lU (cnt:=bC) hlt
   have hfix:=PK HM.out hlt
   obtain ⟨b,o,ck,Fk,rfl,o9,hbs,hr,hsub,hc⟩:=(Sl.ext (w':=wr) (A:=A) (c:=c) h hbl).get hlt
   obtain ⟨hck,su,hkey,kP⟩:=vO hr
   clear hr
   subst hck
   generalize hkk:k+(cO bC (xs.take i):Int) = kk at hfix ⊢
   have aaJ:0≤kk:=by omega
   have Ei:kk+bC xs[i]≤1073741823:=by omega
   simp only [bC] at Ei
   push_cast at Ei
   have e0:lZ (kk) = xs[i].key:=congrArg (fun z:Label=>z.key) hfix
   have q0:wr.cell? ⟨b,o+i * 2,none⟩ = some (.string xs[i].key):=by have:=hc 0 _ rfl;rwa [show o+(i * Dat.size Label+0) = o+i * 2 from by show o+(i * 2+0) = _;omega] at this
   rw [← e0] at q0
   clear e0
   have e1:lZ (kk+1) = xs[i].value:=congrArg (fun z:Label=>z.value) hfix
   have q1:wr.cell? ⟨b,o+i * 2+1,none⟩ = some (.string xs[i].value):=by have:=hc 1 _ rfl;rwa [show o+(i * Dat.size Label+1) = o+i * 2+1 from by show o+(i * 2+1) = _;omega] at this
   rw [← e1] at q1
   clear e1
   clear hc hfix
   go_wp2_with fail
   refine aF wr (by kernel_rfl) (by kernel_rfl) (aj _) ?_
   repeat (first
    | (apply aG
       case hw=>rfl
       simp only [Act.put,pz])
    | (apply aH
       case hw=>rfl
       case h =>
        exact Zaa4
       simp only [Act.put,pz]))
   refine aN ?_
   intro wn1 hn1
   replace hn1:=hn1.out
   replace q0:=((ay hn1).1 b _ hbs).trans q0
   replace q1:=((ay hn1).1 b _ hbs).trans q1
   replace hbs:=Nat.lt_of_lt_of_le hbs hn1.size
   replace hbl:=ah hbl hn1
   go_wp2_with fail
   refine aF wn1 (by kernel_rfl) (by kernel_rfl) (aj _) ?_
   repeat (first
    | (apply aG
       case hw=>rfl
       simp only [Act.put,pz])
    | (apply aH
       case hw=>rfl
       case h =>
        exact Zace
       simp only [Act.put,pz]))
   refine aN ?_
   intro wn2 hn2
   replace hn2:=hn2.out
   replace q0:=((ay hn2).1 b _ hbs).trans q0
   replace q1:=((ay hn2).1 b _ hbs).trans q1
   replace hbs:=Nat.lt_of_lt_of_le hbs hn2.size
   replace hbl:=ah hbl hn2
   go_wp2
   refine ⟨⟨i+1,by omega,by go_num,?_,hbl⟩,by simp [intOf];omega⟩
   rw [JQ];simp only [bC];congr 1;push_cast;omega
  ·exact Zabt
end Go.Proofs.YtogkjlcoadhpgaaGreat
namespace Go.Proofs.YtogkjlcoadhpgaaGreat
open Go.ChangeShapes Go.WideShapes Go.ChangeAt Go.RowKit
set_option linter.unusedVariables false
set_option linter.unusedSimpArgs false
def H9 (x:Need) (k:Int):Need:={ key:=lZ (k),op:=(k+1),values:=EX mkStr nU x.values (k+1+1) }
def fZ (x:Need):Nat:=1+1+cO nU x.values
set_option maxRecDepth 100000 in
set_option maxHeartbeats 2000000 in
theorem ZP (xs:List Need) (A:Option Addr) (n c:Nat) (F:List Nat) (B:Nat) (k:Int) (w:World) (h:Own w B xs [.slice A n c] F) (hn:n = xs.length) (hk0:0≤k) (hk:k+cO fZ xs≤1073741823) :
 Calls Tryz.prog 65 #[.slice A n c,.int .i64 k] w fun e w'=>e = .returned (.int .i64 (k+cO fZ xs))∧Own w' B (EX H9 fZ xs k) [.slice A n c] F∧nN F w w':=by
 subst hn
 have hlen:=YV h
 go_enter Tryz.func65,Tryz.ntmps65
 go_wp2_with fail
 go_loopw [1,5] (fun x y wr=>∃(i:Nat),i≤xs.length∧y = .int .i64 i∧x = .int .i64 (k+cO fZ (xs.take i))∧Own wr B (Jd H9 fZ xs k i) [.slice A xs.length c] F∧nN F w wr) (fun _ y _=>xs.length - (intOf y).toNat)
 case atStart=>exact ⟨0,Nat.zero_le _,rfl,by simp [cO],by rw [Kr];exact h,.refl _ _⟩
 case round =>
  obtain ⟨i,hi,rfl,rfl,hO,hu⟩:=hrel
  by_cases hlt:i < xs.length
  ·have hle:(cO fZ (xs.take i):Int)+fZ xs[i]≤cO fZ xs:=by have:=lU (cnt:=fZ) hlt;have:=EG (cnt:=fZ) xs (i+1);omega
   have JQ:=lU (cnt:=fZ) hlt
   obtain ⟨b,o,ck,Fk,rfl,o9,hsub,hbk,LM,hE,hcl⟩:=hO.elt (k:=i) au9
   rw [Oj hlt] at LM
   have hRe:=LM.rd
   obtain ⟨jy,ji,Bo,hck,su,hkey,hop,kV⟩:=og hRe
   clear hRe
   subst hck su
   have zZ:Own wr B xs[i].values [.slice jy xs[i].values.length ji] Fk:=⟨kV,LM.nodup,fun y hy=>LM.base y (by simp [hy]),fun y hy=>LM.plain y (by simp [hy])⟩
   have agK:b∉Fk:=fun hb=>hbk (by simp [hb])
   generalize hkk:k+(cO fZ (xs.take i):Int) = kk
   have aaJ:0≤kk:=by omega
   have Ei:kk+fZ xs[i]≤1073741823:=by omega
   simp only [fZ] at Ei
   push_cast at Ei
   clear hO
   have q0:=hE.at_ (q:=o+i * 3) (j:=0) ava rfl
   have z0:=hE.plain.frozen (o+i * 3)
   have q1:=hE.at_ (q:=o+i * 3+1) (j:=1) avb rfl
   have z1:=hE.plain.frozen (o+i * 3+1)
   have q2:=hE.at_ (q:=o+i * 3+2) (j:=2) avn rfl
   have z2:=hE.plain.frozen (o+i * 3+2)
   go_wp2_with fail
   clear q0 z0 q1 z1 q2 z2
   refine (lW (kk) _ (by omega) (by omega)).mono ?_
   rintro e w1 ⟨rfl,hb1⟩
   replace hE:=hE.ext hb1
   replace zZ:=zZ.ext hb1
   have q0:=hE.at_ (q:=o+i * 3) (j:=0) ava rfl
   have z0:=hE.plain.frozen (o+i * 3)
   have q1:=hE.at_ (q:=o+i * 3+1) (j:=1) avb rfl
   have z1:=hE.plain.frozen (o+i * 3+1)
   have q2:=hE.at_ (q:=o+i * 3+2) (j:=2) avn rfl
   have z2:=hE.plain.frozen (o+i * 3+2)
   go_wp2_with fail
   clear q0 z0 q1 z1 q2 z2
   replace hE:=hE.set (j:=0) (q:=o+i * 3) (by simp) ava (.string (lZ (kk)))
   simp only [List.set_cons_zero,List.set_cons_succ] at hE
   replace zZ:=zZ.JA (p:=⟨b,o+i * 3,none⟩) agK (.string (lZ (kk)))
   replace hE:=hE.set (j:=1) (q:=o+i * 3+1) (by simp) avb (.int .i64 (kk+1))
   simp only [List.set_cons_zero,List.set_cons_succ] at hE
   replace zZ:=zZ.JA (p:=⟨b,o+i * 3+1,none⟩) agK (.int .i64 (kk+1))
   refine (Dy xs[i].values _ _ _ _ _ (kk+1+1) _ zZ rfl (by omega) (by omega)).mono ?_
   rintro e w2 ⟨rfl,agL,X0⟩
   replace hE:=hE.step X0 (fun y hy=>by simp [hy]) agK
   replace zZ:=agL
   have q0:=hE.at_ (q:=o+i * 3) (j:=0) ava rfl
   have z0:=hE.plain.frozen (o+i * 3)
   have q1:=hE.at_ (q:=o+i * 3+1) (j:=1) avb rfl
   have z1:=hE.plain.frozen (o+i * 3+1)
   have q2:=hE.at_ (q:=o+i * 3+2) (j:=2) avn rfl
   have z2:=hE.plain.frozen (o+i * 3+2)
   go_wp2_with fail
   clear q0 z0 q1 z1 q2 z2
   have hP:=hcl _ (H9 xs[i] kk) _ ⟨(by have:=(nJ (rdStr w2 (lZ (kk)) (NI (by omega))) (nJ (jL w2 ((kk+1)) auG) (zZ.rd)));simp only [List.nil_append,List.append_nil,List.append_assoc,List.cons_append] at this;exact this),LM.nodup,LM.base,(by intro y hy;(try simp only [List.mem_append] at hy);rcases hy with hy;exact zZ.plain y hy)⟩ hE
   have hU:=hu.trans (hE.upd.mono (G:=F) (fun y hy=>by rcases List.mem_cons.1 hy with rfl | hy;exact o9;exact hsub y hy))
   have hset:(Jd H9 fZ xs k i).set i (H9 xs[i] kk) = Jd H9 fZ xs k (i+1):=by rw [← hkk];exact Ol hlt
   rw [hset] at hP
   refine ⟨⟨i+1,by omega,by go_num,?_,hP,hU⟩,by simp [intOf];omega⟩
   rw [JQ];simp only [fZ];congr 1;push_cast;omega
  ·exact Zabq
set_option maxRecDepth 100000 in
set_option maxHeartbeats 2000000 in
theorem ZQ (xs:List Need) (A:Option Addr) (n c:Nat) (F:List Nat) (k:Int) (w:World) (h:rd w xs [.slice A n c] F) (hn:n = xs.length) (hm:EX H9 fZ xs k = xs) (hk0:0≤k) (hk:k+cO fZ xs≤1073741823) :
 Calls Tryz.prog 69 #[.slice A n c,.int .i64 k] w fun e w'=>e = .returned (.int .i64 (k+cO fZ xs))∧Below w.heap.size w w':=by
 subst hn
 have hlen:=ade h
 have HM:=Lib.hid hm
 clear hm
 go_enter Tryz.func69,Tryz.ntmps69
 go_wp2_with fail
 go_loopw [1,5] (fun x y wr=>∃(i:Nat),i≤xs.length∧y = .int .i64 i∧x = .int .i64 (k+cO fZ (xs.take i))∧Below w.heap.size w wr) (fun _ y _=>xs.length - (intOf y).toNat)
 case atStart=>exact ⟨0,Nat.zero_le _,rfl,by simp [cO],aj _⟩
 case round =>
  obtain ⟨i,hi,rfl,rfl,hbl⟩:=hrel
  by_cases hlt:i < xs.length
  ·have hle:(cO fZ (xs.take i):Int)+fZ xs[i]≤cO fZ xs:=by have:=lU (cnt:=fZ) hlt;have:=EG (cnt:=fZ) xs (i+1);omega
   have JQ:=lU (cnt:=fZ) hlt
   have hfix:=PK HM.out hlt
   obtain ⟨b,o,ck,Fk,rfl,o9,hbs,hr,hsub,hc⟩:=(Sl.ext (w':=wr) (A:=A) (c:=c) h hbl).get hlt
   obtain ⟨jy,ji,Bo,hck,su,hkey,hop,kV⟩:=og hr
   clear hr
   subst hck
   generalize hkk:k+(cO fZ (xs.take i):Int) = kk at hfix ⊢
   have aaJ:0≤kk:=by omega
   have Ei:kk+fZ xs[i]≤1073741823:=by omega
   simp only [fZ] at Ei
   push_cast at Ei
   have e0:lZ (kk) = xs[i].key:=congrArg (fun z:Need=>z.key) hfix
   have q0:wr.cell? ⟨b,o+i * 3,none⟩ = some (.string xs[i].key):=by have:=hc 0 _ rfl;rwa [show o+(i * Dat.size Need+0) = o+i * 3 from by show o+(i * 3+0) = _;omega] at this
   rw [← e0] at q0
   clear e0
   have e1:(kk+1) = xs[i].op:=congrArg (fun z:Need=>z.op) hfix
   have q1:wr.cell? ⟨b,o+i * 3+1,none⟩ = some (.int .i64 xs[i].op):=by have:=hc 1 _ rfl;rwa [show o+(i * Dat.size Need+1) = o+i * 3+1 from by show o+(i * 3+1) = _;omega] at this
   rw [← e1] at q1
   clear e1
   have e2:EX mkStr nU xs[i].values (kk+1+1) = xs[i].values:=congrArg (fun z:Need=>z.values) hfix
   have q2:wr.cell? ⟨b,o+i * 3+2,none⟩ = some (.slice jy xs[i].values.length ji):=by have:=hc 2 _ rfl;rwa [show o+(i * Dat.size Need+2) = o+i * 3+2 from by show o+(i * 3+2) = _;omega] at this
   clear hc hfix
   go_wp2_with fail
   refine aF wr (by kernel_rfl) (by kernel_rfl) (aj _) ?_
   repeat (first
    | (apply aG
       case hw=>rfl
       simp only [Act.put,pz])
    | (apply aH
       case hw=>rfl
       case h =>
        exact Zaa4
       simp only [Act.put,pz]))
   refine aN ?_
   intro wn1 hn1
   replace hn1:=hn1.out
   replace q0:=((ay hn1).1 b _ hbs).trans q0
   replace q1:=((ay hn1).1 b _ hbs).trans q1
   replace q2:=((ay hn1).1 b _ hbs).trans q2
   replace kV:=Sl.ext kV hn1
   replace hbs:=Nat.lt_of_lt_of_le hbs hn1.size
   replace hbl:=ah hbl hn1
   go_wp2_with fail
   refine (uy xs[i].values _ _ _ _ (kk+1+1) _ kV rfl e2 (by omega) (by omega)).mono ?_
   rintro e wn2 ⟨rfl,hn2⟩
   replace q0:=((ay hn2).1 b _ hbs).trans q0
   replace q1:=((ay hn2).1 b _ hbs).trans q1
   replace q2:=((ay hn2).1 b _ hbs).trans q2
   replace kV:=Sl.ext kV hn2
   replace hbs:=Nat.lt_of_lt_of_le hbs hn2.size
   replace hbl:=ah hbl hn2
   go_wp2
   refine ⟨⟨i+1,by omega,by go_num,?_,hbl⟩,by simp [intOf];omega⟩
   rw [JQ];simp only [fZ];congr 1;push_cast;omega
  ·exact Zabt
end Go.Proofs.YtogkjlcoadhpgaaGreat
namespace Go.Proofs.YtogkjlcoadhpgaaGreat
open Go.ChangeShapes Go.WideShapes Go.ChangeAt Go.RowKit
set_option linter.unusedVariables false
set_option linter.unusedSimpArgs false
def JR (x:Host) (k:Int):Host:={ name:=lZ (k),labels:=EX xP bC x.labels (k+1),cpu:=(k+1+(cO bC x.labels:Int)),mem:=(k+1+(cO bC x.labels:Int)+1),slots:=(k+1+(cO bC x.labels:Int)+1+1),aT:=EX D8 kC x.aT (k+1+(cO bC x.labels:Int)+1+1+1) }
def lI (x:Host):Nat:=1+cO bC x.labels+1+1+1+cO kC x.aT
set_option maxRecDepth 100000 in
set_option maxHeartbeats 2000000 in
theorem aii (xs:List Host) (A:Option Addr) (n c:Nat) (F:List Nat) (B:Nat) (k:Int) (w:World) (h:Own w B xs [.slice A n c] F) (hn:n = xs.length) (hk0:0≤k) (hk:k+cO lI xs≤1073741823) :
 Calls Tryz.prog 27 #[.slice A n c,.int .i64 k] w fun e w'=>e = .returned (.int .i64 (k+cO lI xs))∧Own w' B (EX JR lI xs k) [.slice A n c] F∧nN F w w':=by
 subst hn
 have hlen:=YV h
 go_enter Tryz.func27,Tryz.ntmps27
 go_wp2_with fail
 go_loopw [1,5] (fun x y wr=>∃(i:Nat),i≤xs.length∧y = .int .i64 i∧x = .int .i64 (k+cO lI (xs.take i))∧Own wr B (Jd JR lI xs k i) [.slice A xs.length c] F∧nN F w wr) (fun _ y _=>xs.length - (intOf y).toNat)
 case atStart=>exact ⟨0,Nat.zero_le _,rfl,by simp [cO],by rw [Kr];exact h,.refl _ _⟩
 case round =>
  obtain ⟨i,hi,rfl,rfl,hO,hu⟩:=hrel
  by_cases hlt:i < xs.length
  ·have hle:(cO lI (xs.take i):Int)+lI xs[i]≤cO lI xs:=by have:=lU (cnt:=lI) hlt;have:=EG (cnt:=lI) xs (i+1);omega
   have JQ:=lU (cnt:=lI) hlt
   obtain ⟨b,o,ck,Fk,rfl,o9,hsub,hbk,LM,hE,hcl⟩:=hO.elt (k:=i) au9
   rw [Oj hlt] at LM
   have hRe:=LM.rd
   obtain ⟨gu,gy,jw,kJ,kK,qU,hck,su,hname,dO,vg,hmem,uI,jq⟩:=iy hRe
   clear hRe
   subst hck su
   have hnd:=LM.nodup
   simp only [List.nodup_append,List.mem_append] at hnd
   have OH:∀y∈jw,y∉qU:=fun y ha hb=>hnd.2.2 y ha y hb rfl
   have OI:∀y∈qU,y∉jw:=fun y hb ha=>hnd.2.2 y ha y hb rfl
   have mD:Own wr B xs[i].labels [.slice gu xs[i].labels.length gy] jw:=⟨dO,hnd.1,fun y hy=>LM.base y (by simp [hy]),fun y hy=>LM.plain y (by simp [hy])⟩
   have XQ:b∉jw:=fun hb=>hbk (by simp [hb])
   have rY:Own wr B xs[i].aT [.slice kJ xs[i].aT.length kK] qU:=⟨jq,hnd.2.1,fun y hy=>LM.base y (by simp [hy]),fun y hy=>LM.plain y (by simp [hy])⟩
   have XR:b∉qU:=fun hb=>hbk (by simp [hb])
   generalize hkk:k+(cO lI (xs.take i):Int) = kk
   have aaJ:0≤kk:=by omega
   have Ei:kk+lI xs[i]≤1073741823:=by omega
   simp only [lI] at Ei
   push_cast at Ei
   clear hO
   have q0:=hE.at_ (q:=o+i * 6) (j:=0) avM rfl
   have z0:=hE.plain.frozen (o+i * 6)
   have q1:=hE.at_ (q:=o+i * 6+1) (j:=1) awk rfl
   have z1:=hE.plain.frozen (o+i * 6+1)
   have q2:=hE.at_ (q:=o+i * 6+2) (j:=2) avN rfl
   have z2:=hE.plain.frozen (o+i * 6+2)
   have q3:=hE.at_ (q:=o+i * 6+3) (j:=3) avO rfl
   have z3:=hE.plain.frozen (o+i * 6+3)
   have q4:=hE.at_ (q:=o+i * 6+4) (j:=4) avP rfl
   have z4:=hE.plain.frozen (o+i * 6+4)
   have q5:=hE.at_ (q:=o+i * 6+5) (j:=5) awl rfl
   have z5:=hE.plain.frozen (o+i * 6+5)
   go_wp2_with fail
   clear q0 z0 q1 z1 q2 z2 q3 z3 q4 z4 q5 z5
   refine (lW (kk) _ (by omega) (by omega)).mono ?_
   rintro e w1 ⟨rfl,hb1⟩
   replace hE:=hE.ext hb1
   replace mD:=mD.ext hb1
   replace rY:=rY.ext hb1
   have q0:=hE.at_ (q:=o+i * 6) (j:=0) avM rfl
   have z0:=hE.plain.frozen (o+i * 6)
   have q1:=hE.at_ (q:=o+i * 6+1) (j:=1) awk rfl
   have z1:=hE.plain.frozen (o+i * 6+1)
   have q2:=hE.at_ (q:=o+i * 6+2) (j:=2) avN rfl
   have z2:=hE.plain.frozen (o+i * 6+2)
   have q3:=hE.at_ (q:=o+i * 6+3) (j:=3) avO rfl
   have z3:=hE.plain.frozen (o+i * 6+3)
   have q4:=hE.at_ (q:=o+i * 6+4) (j:=4) avP rfl
   have z4:=hE.plain.frozen (o+i * 6+4)
   have q5:=hE.at_ (q:=o+i * 6+5) (j:=5) awl rfl
   have z5:=hE.plain.frozen (o+i * 6+5)
   go_wp2_with fail
   clear q0 z0 q1 z1 q2 z2 q3 z3 q4 z4 q5 z5
   replace hE:=hE.set (j:=0) (q:=o+i * 6) (by simp) avM (.string (lZ (kk)))
   simp only [List.set_cons_zero,List.set_cons_succ] at hE
   replace mD:=mD.JA (p:=⟨b,o+i * 6,none⟩) XQ (.string (lZ (kk)))
   replace rY:=rY.JA (p:=⟨b,o+i * 6,none⟩) XR (.string (lZ (kk)))
   refine (H7 xs[i].labels _ _ _ _ _ (kk+1) _ mD rfl (by omega) (by omega)).mono ?_
   rintro e w2 ⟨rfl,XT,Bf⟩
   replace hE:=hE.step Bf (fun y hy=>by simp [hy]) XQ
   replace rY:=Bf.own rY OI
   replace mD:=XT
   have q0:=hE.at_ (q:=o+i * 6) (j:=0) avM rfl
   have z0:=hE.plain.frozen (o+i * 6)
   have q1:=hE.at_ (q:=o+i * 6+1) (j:=1) awk rfl
   have z1:=hE.plain.frozen (o+i * 6+1)
   have q2:=hE.at_ (q:=o+i * 6+2) (j:=2) avN rfl
   have z2:=hE.plain.frozen (o+i * 6+2)
   have q3:=hE.at_ (q:=o+i * 6+3) (j:=3) avO rfl
   have z3:=hE.plain.frozen (o+i * 6+3)
   have q4:=hE.at_ (q:=o+i * 6+4) (j:=4) avP rfl
   have z4:=hE.plain.frozen (o+i * 6+4)
   have q5:=hE.at_ (q:=o+i * 6+5) (j:=5) awl rfl
   have z5:=hE.plain.frozen (o+i * 6+5)
   go_wp2_with fail
   clear q0 z0 q1 z1 q2 z2 q3 z3 q4 z4 q5 z5
   replace hE:=hE.set (j:=2) (q:=o+i * 6+2) (by simp) avN (.int .i64 (kk+1+(cO bC xs[i].labels:Int)))
   simp only [List.set_cons_zero,List.set_cons_succ] at hE
   replace mD:=mD.JA (p:=⟨b,o+i * 6+2,none⟩) XQ (.int .i64 (kk+1+(cO bC xs[i].labels:Int)))
   replace rY:=rY.JA (p:=⟨b,o+i * 6+2,none⟩) XR (.int .i64 (kk+1+(cO bC xs[i].labels:Int)))
   replace hE:=hE.set (j:=3) (q:=o+i * 6+3) (by simp) avO (.int .i64 (kk+1+(cO bC xs[i].labels:Int)+1))
   simp only [List.set_cons_zero,List.set_cons_succ] at hE
   replace mD:=mD.JA (p:=⟨b,o+i * 6+3,none⟩) XQ (.int .i64 (kk+1+(cO bC xs[i].labels:Int)+1))
   replace rY:=rY.JA (p:=⟨b,o+i * 6+3,none⟩) XR (.int .i64 (kk+1+(cO bC xs[i].labels:Int)+1))
   replace hE:=hE.set (j:=4) (q:=o+i * 6+4) (by simp) avP (.int .i64 (kk+1+(cO bC xs[i].labels:Int)+1+1))
   simp only [List.set_cons_zero,List.set_cons_succ] at hE
   replace mD:=mD.JA (p:=⟨b,o+i * 6+4,none⟩) XQ (.int .i64 (kk+1+(cO bC xs[i].labels:Int)+1+1))
   replace rY:=rY.JA (p:=⟨b,o+i * 6+4,none⟩) XR (.int .i64 (kk+1+(cO bC xs[i].labels:Int)+1+1))
   refine (XU xs[i].aT _ _ _ _ _ (kk+1+(cO bC xs[i].labels:Int)+1+1+1) _ rY rfl (by omega) (by omega)).mono ?_
   rintro e w3 ⟨rfl,agI,Om⟩
   replace hE:=hE.step Om (fun y hy=>by simp [hy]) XR
   replace mD:=Om.own mD OH
   replace rY:=agI
   have q0:=hE.at_ (q:=o+i * 6) (j:=0) avM rfl
   have z0:=hE.plain.frozen (o+i * 6)
   have q1:=hE.at_ (q:=o+i * 6+1) (j:=1) awk rfl
   have z1:=hE.plain.frozen (o+i * 6+1)
   have q2:=hE.at_ (q:=o+i * 6+2) (j:=2) avN rfl
   have z2:=hE.plain.frozen (o+i * 6+2)
   have q3:=hE.at_ (q:=o+i * 6+3) (j:=3) avO rfl
   have z3:=hE.plain.frozen (o+i * 6+3)
   have q4:=hE.at_ (q:=o+i * 6+4) (j:=4) avP rfl
   have z4:=hE.plain.frozen (o+i * 6+4)
   have q5:=hE.at_ (q:=o+i * 6+5) (j:=5) awl rfl
   have z5:=hE.plain.frozen (o+i * 6+5)
   go_wp2_with fail
   clear q0 z0 q1 z1 q2 z2 q3 z3 q4 z4 q5 z5
   have hP:=hcl _ (JR xs[i] kk) _ ⟨(by have:=(nJ (rdStr w3 (lZ (kk)) (NI (by omega))) (nJ (mD.rd) (nJ (jL w3 ((kk+1+(cO bC xs[i].labels:Int))) auG) (nJ (jL w3 ((kk+1+(cO bC xs[i].labels:Int)+1)) auG) (nJ (jL w3 ((kk+1+(cO bC xs[i].labels:Int)+1+1)) auG) (rY.rd))))));simp only [List.nil_append,List.append_nil,List.append_assoc,List.cons_append] at this;exact this),LM.nodup,LM.base,(by intro y hy;(try simp only [List.mem_append] at hy);rcases hy with hy | hy <;> first | exact mD.plain y hy | exact rY.plain y hy)⟩ hE
   have hU:=hu.trans (hE.upd.mono (G:=F) (fun y hy=>by rcases List.mem_cons.1 hy with rfl | hy;exact o9;exact hsub y hy))
   have hset:(Jd JR lI xs k i).set i (JR xs[i] kk) = Jd JR lI xs k (i+1):=by rw [← hkk];exact Ol hlt
   rw [hset] at hP
   refine ⟨⟨i+1,by omega,by go_num,?_,hP,hU⟩,by simp [intOf];omega⟩
   rw [JQ];simp only [lI];congr 1;push_cast;omega
  ·exact Zabq
set_option maxRecDepth 100000 in
set_option maxHeartbeats 2000000 in
theorem aij (xs:List Host) (A:Option Addr) (n c:Nat) (F:List Nat) (k:Int) (w:World) (h:rd w xs [.slice A n c] F) (hn:n = xs.length) (hm:EX JR lI xs k = xs) (hk0:0≤k) (hk:k+cO lI xs≤1073741823) :
 Calls Tryz.prog 29 #[.slice A n c,.int .i64 k] w fun e w'=>e = .returned (.int .i64 (k+cO lI xs))∧Below w.heap.size w w':=by
 subst hn
 have hlen:=ade h
 have HM:=Lib.hid hm
 clear hm
 go_enter Tryz.func29,Tryz.ntmps29
 go_wp2_with fail
 go_loopw [1,5] (fun x y wr=>∃(i:Nat),i≤xs.length∧y = .int .i64 i∧x = .int .i64 (k+cO lI (xs.take i))∧Below w.heap.size w wr) (fun _ y _=>xs.length - (intOf y).toNat)
 case atStart=>exact ⟨0,Nat.zero_le _,rfl,by simp [cO],aj _⟩
 case round =>
  obtain ⟨i,hi,rfl,rfl,hbl⟩:=hrel
  by_cases hlt:i < xs.length
  ·have hle:(cO lI (xs.take i):Int)+lI xs[i]≤cO lI xs:=by have:=lU (cnt:=lI) hlt;have:=EG (cnt:=lI) xs (i+1);omega
   have JQ:=lU (cnt:=lI) hlt
   have hfix:=PK HM.out hlt
   obtain ⟨b,o,ck,Fk,rfl,o9,hbs,hr,hsub,hc⟩:=(Sl.ext (w':=wr) (A:=A) (c:=c) h hbl).get hlt
   obtain ⟨gu,gy,jw,kJ,kK,qU,hck,su,hname,dO,vg,hmem,uI,jq⟩:=iy hr
   clear hr
   subst hck
   generalize hkk:k+(cO lI (xs.take i):Int) = kk at hfix ⊢
   have aaJ:0≤kk:=by omega
   have Ei:kk+lI xs[i]≤1073741823:=by omega
   simp only [lI] at Ei
   push_cast at Ei
   have e0:lZ (kk) = xs[i].name:=congrArg (fun z:Host=>z.name) hfix
   have q0:wr.cell? ⟨b,o+i * 6,none⟩ = some (.string xs[i].name):=by have:=hc 0 _ rfl;rwa [show o+(i * Dat.size Host+0) = o+i * 6 from by show o+(i * 6+0) = _;omega] at this
   rw [← e0] at q0
   clear e0
   have e1:EX xP bC xs[i].labels (kk+1) = xs[i].labels:=congrArg (fun z:Host=>z.labels) hfix
   have q1:wr.cell? ⟨b,o+i * 6+1,none⟩ = some (.slice gu xs[i].labels.length gy):=by have:=hc 1 _ rfl;rwa [show o+(i * Dat.size Host+1) = o+i * 6+1 from by show o+(i * 6+1) = _;omega] at this
   have e2:(kk+1+(cO bC xs[i].labels:Int)) = xs[i].cpu:=congrArg (fun z:Host=>z.cpu) hfix
   have q2:wr.cell? ⟨b,o+i * 6+2,none⟩ = some (.int .i64 xs[i].cpu):=by have:=hc 2 _ rfl;rwa [show o+(i * Dat.size Host+2) = o+i * 6+2 from by show o+(i * 6+2) = _;omega] at this
   rw [← e2] at q2
   clear e2
   have e3:(kk+1+(cO bC xs[i].labels:Int)+1) = xs[i].mem:=congrArg (fun z:Host=>z.mem) hfix
   have q3:wr.cell? ⟨b,o+i * 6+3,none⟩ = some (.int .i64 xs[i].mem):=by have:=hc 3 _ rfl;rwa [show o+(i * Dat.size Host+3) = o+i * 6+3 from by show o+(i * 6+3) = _;omega] at this
   rw [← e3] at q3
   clear e3
   have e4:(kk+1+(cO bC xs[i].labels:Int)+1+1) = xs[i].slots:=congrArg (fun z:Host=>z.slots) hfix
   have q4:wr.cell? ⟨b,o+i * 6+4,none⟩ = some (.int .i64 xs[i].slots):=by have:=hc 4 _ rfl;rwa [show o+(i * Dat.size Host+4) = o+i * 6+4 from by show o+(i * 6+4) = _;omega] at this
   rw [← e4] at q4
   clear e4
   have e5:EX D8 kC xs[i].aT (kk+1+(cO bC xs[i].labels:Int)+1+1+1) = xs[i].aT:=congrArg (fun z:Host=>z.aT) hfix
   have q5:wr.cell? ⟨b,o+i * 6+5,none⟩ = some (.slice kJ xs[i].aT.length kK):=by have:=hc 5 _ rfl;rwa [show o+(i * Dat.size Host+5) = o+i * 6+5 from by show o+(i * 6+5) = _;omega] at this
   clear hc hfix
   go_wp2_with fail
   refine aF wr (by kernel_rfl) (by kernel_rfl) (aj _) ?_
   repeat (first
    | (apply aG
       case hw=>rfl
       simp only [Act.put,pz])
    | (apply aH
       case hw=>rfl
       case h =>
        exact Zaa4
       simp only [Act.put,pz]))
   refine aN ?_
   intro wn1 hn1
   replace hn1:=hn1.out
   replace q0:=((ay hn1).1 b _ hbs).trans q0
   replace q1:=((ay hn1).1 b _ hbs).trans q1
   replace dO:=Sl.ext dO hn1
   replace q2:=((ay hn1).1 b _ hbs).trans q2
   replace q3:=((ay hn1).1 b _ hbs).trans q3
   replace q4:=((ay hn1).1 b _ hbs).trans q4
   replace q5:=((ay hn1).1 b _ hbs).trans q5
   replace jq:=Sl.ext jq hn1
   replace hbs:=Nat.lt_of_lt_of_le hbs hn1.size
   replace hbl:=ah hbl hn1
   go_wp2_with fail
   refine (ER xs[i].labels _ _ _ _ (kk+1) _ dO rfl e1 (by omega) (by omega)).mono ?_
   rintro e wn2 ⟨rfl,hn2⟩
   replace q0:=((ay hn2).1 b _ hbs).trans q0
   replace q1:=((ay hn2).1 b _ hbs).trans q1
   replace dO:=Sl.ext dO hn2
   replace q2:=((ay hn2).1 b _ hbs).trans q2
   replace q3:=((ay hn2).1 b _ hbs).trans q3
   replace q4:=((ay hn2).1 b _ hbs).trans q4
   replace q5:=((ay hn2).1 b _ hbs).trans q5
   replace jq:=Sl.ext jq hn2
   replace hbs:=Nat.lt_of_lt_of_le hbs hn2.size
   replace hbl:=ah hbl hn2
   go_wp2_with fail
   refine (XV xs[i].aT _ _ _ _ (kk+1+(cO bC xs[i].labels:Int)+1+1+1) _ jq rfl e5 (by omega) (by omega)).mono ?_
   rintro e wn3 ⟨rfl,hn3⟩
   replace q0:=((ay hn3).1 b _ hbs).trans q0
   replace q1:=((ay hn3).1 b _ hbs).trans q1
   replace dO:=Sl.ext dO hn3
   replace q2:=((ay hn3).1 b _ hbs).trans q2
   replace q3:=((ay hn3).1 b _ hbs).trans q3
   replace q4:=((ay hn3).1 b _ hbs).trans q4
   replace q5:=((ay hn3).1 b _ hbs).trans q5
   replace jq:=Sl.ext jq hn3
   replace hbs:=Nat.lt_of_lt_of_le hbs hn3.size
   replace hbl:=ah hbl hn3
   go_wp2
   refine ⟨⟨i+1,by omega,by go_num,?_,hbl⟩,by simp [intOf];omega⟩
   rw [JQ];simp only [lI];congr 1;push_cast;omega
  ·exact Zabt
end Go.Proofs.YtogkjlcoadhpgaaGreat
