/- Marks on Placed. -/
import Derived.Test.YtogkjlcoadhpgaaGreatMkLabel
import Derived.Test.YtogkjlcoadhpgaaGreatRowK
namespace Go.Proofs.YtogkjlcoadhpgaaGreat
open Go.ChangeShapes Go.WideShapes Go.ChangeAt Go.RowKit
set_option linter.unusedVariables false
set_option linter.unusedSimpArgs false
def CS (x:Placed) (k:Int):Placed:={ aS:={ name:=lZ (k),labels:=EX xP bC x.aS.labels (k+1),cpu:=(k+1+(cO bC x.aS.labels:Int)),mem:=(k+1+(cO bC x.aS.labels:Int)+1),rank:=(k+1+(cO bC x.aS.labels:Int)+1+1),needs:=EX H9 fZ x.aS.needs (k+1+(cO bC x.aS.labels:Int)+1+1+1),tolerances:=EX rC bJ x.aS.tolerances (k+1+(cO bC x.aS.labels:Int)+1+1+1+(cO fZ x.aS.needs:Int)) },on:=lZ (k+1+(cO bC x.aS.labels:Int)+1+1+1+(cO fZ x.aS.needs:Int)+(cO bJ x.aS.tolerances:Int)),seq:=(k+1+(cO bC x.aS.labels:Int)+1+1+1+(cO fZ x.aS.needs:Int)+(cO bJ x.aS.tolerances:Int)+1) }
def jh (x:Placed):Nat:=1+cO bC x.aS.labels+1+1+1+cO fZ x.aS.needs+cO bJ x.aS.tolerances+1+1
set_option maxRecDepth 100000 in
set_option maxHeartbeats 2000000 in
theorem aez (xs:List Placed) (A:Option Addr) (n c:Nat) (F:List Nat) (B:Nat) (k:Int) (w:World) (h:Own w B xs [.slice A n c] F) (hn:n = xs.length) (hk0:0≤k) (hk:k+cO jh xs≤1073741823) :
 Calls Tryz.prog 28 #[.slice A n c,.int .i64 k] w fun e w'=>e = .returned (.int .i64 (k+cO jh xs))∧Own w' B (EX CS jh xs k) [.slice A n c] F∧nN F w w':=by
 subst hn
 have hlen:=YV h
 go_enter Tryz.func28,Tryz.ntmps28
 go_wp2_with fail
 go_loopw [1,5] (fun x y wr=>∃(i:Nat),i≤xs.length∧y = .int .i64 i∧x = .int .i64 (k+cO jh (xs.take i))∧Own wr B (Jd CS jh xs k i) [.slice A xs.length c] F∧nN F w wr) (fun _ y _=>xs.length - (intOf y).toNat)
 case atStart=>exact ⟨0,Nat.zero_le _,rfl,by simp [cO],by rw [Kr];exact h,.refl _ _⟩
 case round =>
  obtain ⟨i,hi,rfl,rfl,hO,hu⟩:=hrel
  by_cases hlt:i < xs.length
  ·have hle:(cO jh (xs.take i):Int)+jh xs[i]≤cO jh xs:=by have:=lU (cnt:=jh) hlt;have:=EG (cnt:=jh) xs (i+1);omega
   have JQ:=lU (cnt:=jh) hlt
   obtain ⟨b,o,ck,Fk,rfl,o9,hsub,hbk,LM,hE,hcl⟩:=hO.elt (k:=i) au9
   rw [Oj hlt] at LM
   have hRe:=LM.rd
   obtain ⟨gV,gW,lF,iR,iT,mV,dD,dF,iH,hck,su,nY,iE,rF,rG,oZ,je,dN,hon,hseq⟩:=kE hRe
   clear hRe
   subst hck su
   have hnd:=LM.nodup
   simp only [List.nodup_append,List.mem_append] at hnd
   have XW:∀y∈lF,y∉mV:=fun y ha hb=>hnd.2.2 y ha y (.inl hb) rfl
   have XY:∀y∈mV,y∉lF:=fun y hb ha=>hnd.2.2 y ha y (.inl hb) rfl
   have QU:∀y∈lF,y∉iH:=fun y ha hb=>hnd.2.2 y ha y (.inr hb) rfl
   have QV:∀y∈iH,y∉lF:=fun y hb ha=>hnd.2.2 y ha y (.inr hb) rfl
   have TK:∀y∈mV,y∉iH:=fun y ha hb=>hnd.2.1.2.2 y ha y hb rfl
   have TL:∀y∈iH,y∉mV:=fun y hb ha=>hnd.2.1.2.2 y ha y hb rfl
   have l7:Own wr B xs[i].aS.labels [.slice gV xs[i].aS.labels.length gW] lF:=⟨iE,hnd.1,fun y hy=>LM.base y (by simp [hy]),fun y hy=>LM.plain y (by simp [hy])⟩
   have Ia:b∉lF:=fun hb=>hbk (by simp [hb])
   have oC:Own wr B xs[i].aS.needs [.slice iR xs[i].aS.needs.length iT] mV:=⟨je,hnd.2.1.1,fun y hy=>LM.base y (by simp [hy]),fun y hy=>LM.plain y (by simp [hy])⟩
   have JU:b∉mV:=fun hb=>hbk (by simp [hb])
   have jA:Own wr B xs[i].aS.tolerances [.slice dD xs[i].aS.tolerances.length dF] iH:=⟨dN,hnd.2.1.2.1,fun y hy=>LM.base y (by simp [hy]),fun y hy=>LM.plain y (by simp [hy])⟩
   have AU:b∉iH:=fun hb=>hbk (by simp [hb])
   generalize hkk:k+(cO jh (xs.take i):Int) = kk
   have aaJ:0≤kk:=by omega
   have Ei:kk+jh xs[i]≤1073741823:=by omega
   simp only [jh] at Ei
   push_cast at Ei
   clear hO
   have q0:=hE.at_ (q:=o+i * 9) (j:=0) avh rfl
   have z0:=hE.plain.frozen (o+i * 9)
   have q1:=hE.at_ (q:=o+i * 9+1) (j:=1) avw rfl
   have z1:=hE.plain.frozen (o+i * 9+1)
   have q2:=hE.at_ (q:=o+i * 9+2) (j:=2) avi rfl
   have z2:=hE.plain.frozen (o+i * 9+2)
   have q3:=hE.at_ (q:=o+i * 9+3) (j:=3) avj rfl
   have z3:=hE.plain.frozen (o+i * 9+3)
   have q4:=hE.at_ (q:=o+i * 9+4) (j:=4) avk rfl
   have z4:=hE.plain.frozen (o+i * 9+4)
   have q5:=hE.at_ (q:=o+i * 9+5) (j:=5) avx rfl
   have z5:=hE.plain.frozen (o+i * 9+5)
   have q6:=hE.at_ (q:=o+i * 9+6) (j:=6) avy rfl
   have z6:=hE.plain.frozen (o+i * 9+6)
   have q7:=hE.at_ (q:=o+i * 9+7) (j:=7) avl rfl
   have z7:=hE.plain.frozen (o+i * 9+7)
   have q8:=hE.at_ (q:=o+i * 9+8) (j:=8) avm rfl
   have z8:=hE.plain.frozen (o+i * 9+8)
   go_wp2_with fail
   clear q0 z0 q1 z1 q2 z2 q3 z3 q4 z4 q5 z5 q6 z6 q7 z7 q8 z8
   refine (lW (kk) _ (by omega) (by omega)).mono ?_
   rintro e w1 ⟨rfl,hb1⟩
   replace hE:=hE.ext hb1
   replace l7:=l7.ext hb1
   replace oC:=oC.ext hb1
   replace jA:=jA.ext hb1
   have q0:=hE.at_ (q:=o+i * 9) (j:=0) avh rfl
   have z0:=hE.plain.frozen (o+i * 9)
   have q1:=hE.at_ (q:=o+i * 9+1) (j:=1) avw rfl
   have z1:=hE.plain.frozen (o+i * 9+1)
   have q2:=hE.at_ (q:=o+i * 9+2) (j:=2) avi rfl
   have z2:=hE.plain.frozen (o+i * 9+2)
   have q3:=hE.at_ (q:=o+i * 9+3) (j:=3) avj rfl
   have z3:=hE.plain.frozen (o+i * 9+3)
   have q4:=hE.at_ (q:=o+i * 9+4) (j:=4) avk rfl
   have z4:=hE.plain.frozen (o+i * 9+4)
   have q5:=hE.at_ (q:=o+i * 9+5) (j:=5) avx rfl
   have z5:=hE.plain.frozen (o+i * 9+5)
   have q6:=hE.at_ (q:=o+i * 9+6) (j:=6) avy rfl
   have z6:=hE.plain.frozen (o+i * 9+6)
   have q7:=hE.at_ (q:=o+i * 9+7) (j:=7) avl rfl
   have z7:=hE.plain.frozen (o+i * 9+7)
   have q8:=hE.at_ (q:=o+i * 9+8) (j:=8) avm rfl
   have z8:=hE.plain.frozen (o+i * 9+8)
   go_wp2_with fail
   clear q0 z0 q1 z1 q2 z2 q3 z3 q4 z4 q5 z5 q6 z6 q7 z7 q8 z8
   replace hE:=hE.set (j:=0) (q:=o+i * 9) (by simp) avh (.string (lZ (kk)))
   simp only [List.set_cons_zero,List.set_cons_succ] at hE
   replace l7:=l7.JA (p:=⟨b,o+i * 9,none⟩) Ia (.string (lZ (kk)))
   replace oC:=oC.JA (p:=⟨b,o+i * 9,none⟩) JU (.string (lZ (kk)))
   replace jA:=jA.JA (p:=⟨b,o+i * 9,none⟩) AU (.string (lZ (kk)))
   refine (H7 xs[i].aS.labels _ _ _ _ _ (kk+1) _ l7 rfl (by omega) (by omega)).mono ?_
   rintro e w2 ⟨rfl,ams,XZ⟩
   replace hE:=hE.step XZ (fun y hy=>by simp [hy]) Ia
   replace oC:=XZ.own oC XY
   replace jA:=XZ.own jA QV
   replace l7:=ams
   have q0:=hE.at_ (q:=o+i * 9) (j:=0) avh rfl
   have z0:=hE.plain.frozen (o+i * 9)
   have q1:=hE.at_ (q:=o+i * 9+1) (j:=1) avw rfl
   have z1:=hE.plain.frozen (o+i * 9+1)
   have q2:=hE.at_ (q:=o+i * 9+2) (j:=2) avi rfl
   have z2:=hE.plain.frozen (o+i * 9+2)
   have q3:=hE.at_ (q:=o+i * 9+3) (j:=3) avj rfl
   have z3:=hE.plain.frozen (o+i * 9+3)
   have q4:=hE.at_ (q:=o+i * 9+4) (j:=4) avk rfl
   have z4:=hE.plain.frozen (o+i * 9+4)
   have q5:=hE.at_ (q:=o+i * 9+5) (j:=5) avx rfl
   have z5:=hE.plain.frozen (o+i * 9+5)
   have q6:=hE.at_ (q:=o+i * 9+6) (j:=6) avy rfl
   have z6:=hE.plain.frozen (o+i * 9+6)
   have q7:=hE.at_ (q:=o+i * 9+7) (j:=7) avl rfl
   have z7:=hE.plain.frozen (o+i * 9+7)
   have q8:=hE.at_ (q:=o+i * 9+8) (j:=8) avm rfl
   have z8:=hE.plain.frozen (o+i * 9+8)
   go_wp2_with fail
   clear q0 z0 q1 z1 q2 z2 q3 z3 q4 z4 q5 z5 q6 z6 q7 z7 q8 z8
   replace hE:=hE.set (j:=2) (q:=o+i * 9+2) (by simp) avi (.int .i64 (kk+1+(cO bC xs[i].aS.labels:Int)))
   simp only [List.set_cons_zero,List.set_cons_succ] at hE
   replace l7:=l7.JA (p:=⟨b,o+i * 9+2,none⟩) Ia (.int .i64 (kk+1+(cO bC xs[i].aS.labels:Int)))
   replace oC:=oC.JA (p:=⟨b,o+i * 9+2,none⟩) JU (.int .i64 (kk+1+(cO bC xs[i].aS.labels:Int)))
   replace jA:=jA.JA (p:=⟨b,o+i * 9+2,none⟩) AU (.int .i64 (kk+1+(cO bC xs[i].aS.labels:Int)))
   replace hE:=hE.set (j:=3) (q:=o+i * 9+3) (by simp) avj (.int .i64 (kk+1+(cO bC xs[i].aS.labels:Int)+1))
   simp only [List.set_cons_zero,List.set_cons_succ] at hE
   replace l7:=l7.JA (p:=⟨b,o+i * 9+3,none⟩) Ia (.int .i64 (kk+1+(cO bC xs[i].aS.labels:Int)+1))
   replace oC:=oC.JA (p:=⟨b,o+i * 9+3,none⟩) JU (.int .i64 (kk+1+(cO bC xs[i].aS.labels:Int)+1))
   replace jA:=jA.JA (p:=⟨b,o+i * 9+3,none⟩) AU (.int .i64 (kk+1+(cO bC xs[i].aS.labels:Int)+1))
   replace hE:=hE.set (j:=4) (q:=o+i * 9+4) (by simp) avk (.int .i64 (kk+1+(cO bC xs[i].aS.labels:Int)+1+1))
   simp only [List.set_cons_zero,List.set_cons_succ] at hE
   replace l7:=l7.JA (p:=⟨b,o+i * 9+4,none⟩) Ia (.int .i64 (kk+1+(cO bC xs[i].aS.labels:Int)+1+1))
   replace oC:=oC.JA (p:=⟨b,o+i * 9+4,none⟩) JU (.int .i64 (kk+1+(cO bC xs[i].aS.labels:Int)+1+1))
   replace jA:=jA.JA (p:=⟨b,o+i * 9+4,none⟩) AU (.int .i64 (kk+1+(cO bC xs[i].aS.labels:Int)+1+1))
   refine (ZP xs[i].aS.needs _ _ _ _ _ (kk+1+(cO bC xs[i].aS.labels:Int)+1+1+1) _ oC rfl (by omega) (by omega)).mono ?_
   rintro e w3 ⟨rfl,aow,aaM⟩
   replace hE:=hE.step aaM (fun y hy=>by simp [hy]) JU
   replace l7:=aaM.own l7 XW
   replace jA:=aaM.own jA TL
   replace oC:=aow
   have q0:=hE.at_ (q:=o+i * 9) (j:=0) avh rfl
   have z0:=hE.plain.frozen (o+i * 9)
   have q1:=hE.at_ (q:=o+i * 9+1) (j:=1) avw rfl
   have z1:=hE.plain.frozen (o+i * 9+1)
   have q2:=hE.at_ (q:=o+i * 9+2) (j:=2) avi rfl
   have z2:=hE.plain.frozen (o+i * 9+2)
   have q3:=hE.at_ (q:=o+i * 9+3) (j:=3) avj rfl
   have z3:=hE.plain.frozen (o+i * 9+3)
   have q4:=hE.at_ (q:=o+i * 9+4) (j:=4) avk rfl
   have z4:=hE.plain.frozen (o+i * 9+4)
   have q5:=hE.at_ (q:=o+i * 9+5) (j:=5) avx rfl
   have z5:=hE.plain.frozen (o+i * 9+5)
   have q6:=hE.at_ (q:=o+i * 9+6) (j:=6) avy rfl
   have z6:=hE.plain.frozen (o+i * 9+6)
   have q7:=hE.at_ (q:=o+i * 9+7) (j:=7) avl rfl
   have z7:=hE.plain.frozen (o+i * 9+7)
   have q8:=hE.at_ (q:=o+i * 9+8) (j:=8) avm rfl
   have z8:=hE.plain.frozen (o+i * 9+8)
   go_wp2_with fail
   clear q0 z0 q1 z1 q2 z2 q3 z3 q4 z4 q5 z5 q6 z6 q7 z7 q8 z8
   refine (Qw xs[i].aS.tolerances _ _ _ _ _ (kk+1+(cO bC xs[i].aS.labels:Int)+1+1+1+(cO fZ xs[i].aS.needs:Int)) _ jA rfl (by omega) (by omega)).mono ?_
   rintro e w4 ⟨rfl,aeA,OJ⟩
   replace hE:=hE.step OJ (fun y hy=>by simp [hy]) AU
   replace l7:=OJ.own l7 QU
   replace oC:=OJ.own oC TK
   replace jA:=aeA
   have q0:=hE.at_ (q:=o+i * 9) (j:=0) avh rfl
   have z0:=hE.plain.frozen (o+i * 9)
   have q1:=hE.at_ (q:=o+i * 9+1) (j:=1) avw rfl
   have z1:=hE.plain.frozen (o+i * 9+1)
   have q2:=hE.at_ (q:=o+i * 9+2) (j:=2) avi rfl
   have z2:=hE.plain.frozen (o+i * 9+2)
   have q3:=hE.at_ (q:=o+i * 9+3) (j:=3) avj rfl
   have z3:=hE.plain.frozen (o+i * 9+3)
   have q4:=hE.at_ (q:=o+i * 9+4) (j:=4) avk rfl
   have z4:=hE.plain.frozen (o+i * 9+4)
   have q5:=hE.at_ (q:=o+i * 9+5) (j:=5) avx rfl
   have z5:=hE.plain.frozen (o+i * 9+5)
   have q6:=hE.at_ (q:=o+i * 9+6) (j:=6) avy rfl
   have z6:=hE.plain.frozen (o+i * 9+6)
   have q7:=hE.at_ (q:=o+i * 9+7) (j:=7) avl rfl
   have z7:=hE.plain.frozen (o+i * 9+7)
   have q8:=hE.at_ (q:=o+i * 9+8) (j:=8) avm rfl
   have z8:=hE.plain.frozen (o+i * 9+8)
   go_wp2_with fail
   clear q0 z0 q1 z1 q2 z2 q3 z3 q4 z4 q5 z5 q6 z6 q7 z7 q8 z8
   refine (lW (kk+1+(cO bC xs[i].aS.labels:Int)+1+1+1+(cO fZ xs[i].aS.needs:Int)+(cO bJ xs[i].aS.tolerances:Int)) _ (by omega) (by omega)).mono ?_
   rintro e w5 ⟨rfl,hb5⟩
   replace hE:=hE.ext hb5
   replace l7:=l7.ext hb5
   replace oC:=oC.ext hb5
   replace jA:=jA.ext hb5
   have q0:=hE.at_ (q:=o+i * 9) (j:=0) avh rfl
   have z0:=hE.plain.frozen (o+i * 9)
   have q1:=hE.at_ (q:=o+i * 9+1) (j:=1) avw rfl
   have z1:=hE.plain.frozen (o+i * 9+1)
   have q2:=hE.at_ (q:=o+i * 9+2) (j:=2) avi rfl
   have z2:=hE.plain.frozen (o+i * 9+2)
   have q3:=hE.at_ (q:=o+i * 9+3) (j:=3) avj rfl
   have z3:=hE.plain.frozen (o+i * 9+3)
   have q4:=hE.at_ (q:=o+i * 9+4) (j:=4) avk rfl
   have z4:=hE.plain.frozen (o+i * 9+4)
   have q5:=hE.at_ (q:=o+i * 9+5) (j:=5) avx rfl
   have z5:=hE.plain.frozen (o+i * 9+5)
   have q6:=hE.at_ (q:=o+i * 9+6) (j:=6) avy rfl
   have z6:=hE.plain.frozen (o+i * 9+6)
   have q7:=hE.at_ (q:=o+i * 9+7) (j:=7) avl rfl
   have z7:=hE.plain.frozen (o+i * 9+7)
   have q8:=hE.at_ (q:=o+i * 9+8) (j:=8) avm rfl
   have z8:=hE.plain.frozen (o+i * 9+8)
   go_wp2_with fail
   clear q0 z0 q1 z1 q2 z2 q3 z3 q4 z4 q5 z5 q6 z6 q7 z7 q8 z8
   replace hE:=hE.set (j:=7) (q:=o+i * 9+7) (by simp) avl (.string (lZ (kk+1+(cO bC xs[i].aS.labels:Int)+1+1+1+(cO fZ xs[i].aS.needs:Int)+(cO bJ xs[i].aS.tolerances:Int))))
   simp only [List.set_cons_zero,List.set_cons_succ] at hE
   replace l7:=l7.JA (p:=⟨b,o+i * 9+7,none⟩) Ia (.string (lZ (kk+1+(cO bC xs[i].aS.labels:Int)+1+1+1+(cO fZ xs[i].aS.needs:Int)+(cO bJ xs[i].aS.tolerances:Int))))
   replace oC:=oC.JA (p:=⟨b,o+i * 9+7,none⟩) JU (.string (lZ (kk+1+(cO bC xs[i].aS.labels:Int)+1+1+1+(cO fZ xs[i].aS.needs:Int)+(cO bJ xs[i].aS.tolerances:Int))))
   replace jA:=jA.JA (p:=⟨b,o+i * 9+7,none⟩) AU (.string (lZ (kk+1+(cO bC xs[i].aS.labels:Int)+1+1+1+(cO fZ xs[i].aS.needs:Int)+(cO bJ xs[i].aS.tolerances:Int))))
   replace hE:=hE.set (j:=8) (q:=o+i * 9+8) (by simp) avm (.int .i64 (kk+1+(cO bC xs[i].aS.labels:Int)+1+1+1+(cO fZ xs[i].aS.needs:Int)+(cO bJ xs[i].aS.tolerances:Int)+1))
   simp only [List.set_cons_zero,List.set_cons_succ] at hE
   replace l7:=l7.JA (p:=⟨b,o+i * 9+8,none⟩) Ia (.int .i64 (kk+1+(cO bC xs[i].aS.labels:Int)+1+1+1+(cO fZ xs[i].aS.needs:Int)+(cO bJ xs[i].aS.tolerances:Int)+1))
   replace oC:=oC.JA (p:=⟨b,o+i * 9+8,none⟩) JU (.int .i64 (kk+1+(cO bC xs[i].aS.labels:Int)+1+1+1+(cO fZ xs[i].aS.needs:Int)+(cO bJ xs[i].aS.tolerances:Int)+1))
   replace jA:=jA.JA (p:=⟨b,o+i * 9+8,none⟩) AU (.int .i64 (kk+1+(cO bC xs[i].aS.labels:Int)+1+1+1+(cO fZ xs[i].aS.needs:Int)+(cO bJ xs[i].aS.tolerances:Int)+1))
   have hP:=hcl _ (CS xs[i] kk) _ ⟨(by have:=(nJ ((nJ (rdStr ((w5.setCell ⟨b,o+i * 9+7,none⟩ (.string (lZ (kk+1+(cO bC xs[i].aS.labels:Int)+1+1+1+(cO fZ xs[i].aS.needs:Int)+(cO bJ xs[i].aS.tolerances:Int))))).setCell ⟨b,o+i * 9+8,none⟩ (.int .i64 (kk+1+(cO bC xs[i].aS.labels:Int)+1+1+1+(cO fZ xs[i].aS.needs:Int)+(cO bJ xs[i].aS.tolerances:Int)+1))) (lZ (kk)) (NI (by omega))) (nJ (l7.rd) (nJ (jL ((w5.setCell ⟨b,o+i * 9+7,none⟩ (.string (lZ (kk+1+(cO bC xs[i].aS.labels:Int)+1+1+1+(cO fZ xs[i].aS.needs:Int)+(cO bJ xs[i].aS.tolerances:Int))))).setCell ⟨b,o+i * 9+8,none⟩ (.int .i64 (kk+1+(cO bC xs[i].aS.labels:Int)+1+1+1+(cO fZ xs[i].aS.needs:Int)+(cO bJ xs[i].aS.tolerances:Int)+1))) ((kk+1+(cO bC xs[i].aS.labels:Int))) auG) (nJ (jL ((w5.setCell ⟨b,o+i * 9+7,none⟩ (.string (lZ (kk+1+(cO bC xs[i].aS.labels:Int)+1+1+1+(cO fZ xs[i].aS.needs:Int)+(cO bJ xs[i].aS.tolerances:Int))))).setCell ⟨b,o+i * 9+8,none⟩ (.int .i64 (kk+1+(cO bC xs[i].aS.labels:Int)+1+1+1+(cO fZ xs[i].aS.needs:Int)+(cO bJ xs[i].aS.tolerances:Int)+1))) ((kk+1+(cO bC xs[i].aS.labels:Int)+1)) auG) (nJ (jL ((w5.setCell ⟨b,o+i * 9+7,none⟩ (.string (lZ (kk+1+(cO bC xs[i].aS.labels:Int)+1+1+1+(cO fZ xs[i].aS.needs:Int)+(cO bJ xs[i].aS.tolerances:Int))))).setCell ⟨b,o+i * 9+8,none⟩ (.int .i64 (kk+1+(cO bC xs[i].aS.labels:Int)+1+1+1+(cO fZ xs[i].aS.needs:Int)+(cO bJ xs[i].aS.tolerances:Int)+1))) ((kk+1+(cO bC xs[i].aS.labels:Int)+1+1)) auG) (nJ (oC.rd) (jA.rd)))))))) (nJ (rdStr ((w5.setCell ⟨b,o+i * 9+7,none⟩ (.string (lZ (kk+1+(cO bC xs[i].aS.labels:Int)+1+1+1+(cO fZ xs[i].aS.needs:Int)+(cO bJ xs[i].aS.tolerances:Int))))).setCell ⟨b,o+i * 9+8,none⟩ (.int .i64 (kk+1+(cO bC xs[i].aS.labels:Int)+1+1+1+(cO fZ xs[i].aS.needs:Int)+(cO bJ xs[i].aS.tolerances:Int)+1))) (lZ (kk+1+(cO bC xs[i].aS.labels:Int)+1+1+1+(cO fZ xs[i].aS.needs:Int)+(cO bJ xs[i].aS.tolerances:Int))) (NI (by omega))) (jL ((w5.setCell ⟨b,o+i * 9+7,none⟩ (.string (lZ (kk+1+(cO bC xs[i].aS.labels:Int)+1+1+1+(cO fZ xs[i].aS.needs:Int)+(cO bJ xs[i].aS.tolerances:Int))))).setCell ⟨b,o+i * 9+8,none⟩ (.int .i64 (kk+1+(cO bC xs[i].aS.labels:Int)+1+1+1+(cO fZ xs[i].aS.needs:Int)+(cO bJ xs[i].aS.tolerances:Int)+1))) ((kk+1+(cO bC xs[i].aS.labels:Int)+1+1+1+(cO fZ xs[i].aS.needs:Int)+(cO bJ xs[i].aS.tolerances:Int)+1)) auG)));simp only [List.nil_append,List.append_nil,List.append_assoc,List.cons_append] at this;exact this),LM.nodup,LM.base,(by intro y hy;(try simp only [List.mem_append] at hy);rcases hy with hy | hy | hy <;> first | exact l7.plain y hy | exact oC.plain y hy | exact jA.plain y hy)⟩ hE
   have hU:=hu.trans (hE.upd.mono (G:=F) (fun y hy=>by rcases List.mem_cons.1 hy with rfl | hy;exact o9;exact hsub y hy))
   have hset:(Jd CS jh xs k i).set i (CS xs[i] kk) = Jd CS jh xs k (i+1):=by rw [← hkk];exact Ol hlt
   rw [hset] at hP
   refine ⟨⟨i+1,by omega,by go_num,?_,hP,hU⟩,by simp [intOf];omega⟩
   rw [JQ];simp only [jh];congr 1;push_cast;omega
  ·exact Zabq
set_option maxRecDepth 100000 in
set_option maxHeartbeats 2000000 in
theorem aeB (xs:List Placed) (A:Option Addr) (n c:Nat) (F:List Nat) (k:Int) (w:World) (h:rd w xs [.slice A n c] F) (hn:n = xs.length) (hm:EX CS jh xs k = xs) (hk0:0≤k) (hk:k+cO jh xs≤1073741823) :
 Calls Tryz.prog 30 #[.slice A n c,.int .i64 k] w fun e w'=>e = .returned (.int .i64 (k+cO jh xs))∧Below w.heap.size w w':=by
 subst hn
 have hlen:=ade h
 have HM:=Lib.hid hm
 clear hm
 go_enter Tryz.func30,Tryz.ntmps30
 go_wp2_with fail
 go_loopw [1,5] (fun x y wr=>∃(i:Nat),i≤xs.length∧y = .int .i64 i∧x = .int .i64 (k+cO jh (xs.take i))∧Below w.heap.size w wr) (fun _ y _=>xs.length - (intOf y).toNat)
 case atStart=>exact ⟨0,Nat.zero_le _,rfl,by simp [cO],aj _⟩
 case round =>
  obtain ⟨i,hi,rfl,rfl,hbl⟩:=hrel
  by_cases hlt:i < xs.length
  ·have hle:(cO jh (xs.take i):Int)+jh xs[i]≤cO jh xs:=by have:=lU (cnt:=jh) hlt;have:=EG (cnt:=jh) xs (i+1);omega
   have JQ:=lU (cnt:=jh) hlt
   have hfix:=PK HM.out hlt
   obtain ⟨b,o,ck,Fk,rfl,o9,hbs,hr,hsub,hc⟩:=(Sl.ext (w':=wr) (A:=A) (c:=c) h hbl).get hlt
   obtain ⟨gV,gW,lF,iR,iT,mV,dD,dF,iH,hck,su,nY,iE,rF,rG,oZ,je,dN,hon,hseq⟩:=kE hr
   clear hr
   subst hck
   generalize hkk:k+(cO jh (xs.take i):Int) = kk at hfix ⊢
   have aaJ:0≤kk:=by omega
   have Ei:kk+jh xs[i]≤1073741823:=by omega
   simp only [jh] at Ei
   push_cast at Ei
   have e0:lZ (kk) = xs[i].aS.name:=congrArg (fun z:Placed=>z.aS.name) hfix
   have q0:wr.cell? ⟨b,o+i * 9,none⟩ = some (.string xs[i].aS.name):=by have:=hc 0 _ rfl;rwa [show o+(i * Dat.size Placed+0) = o+i * 9 from by show o+(i * 9+0) = _;omega] at this
   rw [← e0] at q0
   clear e0
   have e1:EX xP bC xs[i].aS.labels (kk+1) = xs[i].aS.labels:=congrArg (fun z:Placed=>z.aS.labels) hfix
   have q1:wr.cell? ⟨b,o+i * 9+1,none⟩ = some (.slice gV xs[i].aS.labels.length gW):=by have:=hc 1 _ rfl;rwa [show o+(i * Dat.size Placed+1) = o+i * 9+1 from by show o+(i * 9+1) = _;omega] at this
   have e2:(kk+1+(cO bC xs[i].aS.labels:Int)) = xs[i].aS.cpu:=congrArg (fun z:Placed=>z.aS.cpu) hfix
   have q2:wr.cell? ⟨b,o+i * 9+2,none⟩ = some (.int .i64 xs[i].aS.cpu):=by have:=hc 2 _ rfl;rwa [show o+(i * Dat.size Placed+2) = o+i * 9+2 from by show o+(i * 9+2) = _;omega] at this
   rw [← e2] at q2
   clear e2
   have e3:(kk+1+(cO bC xs[i].aS.labels:Int)+1) = xs[i].aS.mem:=congrArg (fun z:Placed=>z.aS.mem) hfix
   have q3:wr.cell? ⟨b,o+i * 9+3,none⟩ = some (.int .i64 xs[i].aS.mem):=by have:=hc 3 _ rfl;rwa [show o+(i * Dat.size Placed+3) = o+i * 9+3 from by show o+(i * 9+3) = _;omega] at this
   rw [← e3] at q3
   clear e3
   have e4:(kk+1+(cO bC xs[i].aS.labels:Int)+1+1) = xs[i].aS.rank:=congrArg (fun z:Placed=>z.aS.rank) hfix
   have q4:wr.cell? ⟨b,o+i * 9+4,none⟩ = some (.int .i64 xs[i].aS.rank):=by have:=hc 4 _ rfl;rwa [show o+(i * Dat.size Placed+4) = o+i * 9+4 from by show o+(i * 9+4) = _;omega] at this
   rw [← e4] at q4
   clear e4
   have e5:EX H9 fZ xs[i].aS.needs (kk+1+(cO bC xs[i].aS.labels:Int)+1+1+1) = xs[i].aS.needs:=congrArg (fun z:Placed=>z.aS.needs) hfix
   have q5:wr.cell? ⟨b,o+i * 9+5,none⟩ = some (.slice iR xs[i].aS.needs.length iT):=by have:=hc 5 _ rfl;rwa [show o+(i * Dat.size Placed+5) = o+i * 9+5 from by show o+(i * 9+5) = _;omega] at this
   have e6:EX rC bJ xs[i].aS.tolerances (kk+1+(cO bC xs[i].aS.labels:Int)+1+1+1+(cO fZ xs[i].aS.needs:Int)) = xs[i].aS.tolerances:=congrArg (fun z:Placed=>z.aS.tolerances) hfix
   have q6:wr.cell? ⟨b,o+i * 9+6,none⟩ = some (.slice dD xs[i].aS.tolerances.length dF):=by have:=hc 6 _ rfl;rwa [show o+(i * Dat.size Placed+6) = o+i * 9+6 from by show o+(i * 9+6) = _;omega] at this
   have e7:lZ (kk+1+(cO bC xs[i].aS.labels:Int)+1+1+1+(cO fZ xs[i].aS.needs:Int)+(cO bJ xs[i].aS.tolerances:Int)) = xs[i].on:=congrArg (fun z:Placed=>z.on) hfix
   have q7:wr.cell? ⟨b,o+i * 9+7,none⟩ = some (.string xs[i].on):=by have:=hc 7 _ rfl;rwa [show o+(i * Dat.size Placed+7) = o+i * 9+7 from by show o+(i * 9+7) = _;omega] at this
   rw [← e7] at q7
   clear e7
   have e8:(kk+1+(cO bC xs[i].aS.labels:Int)+1+1+1+(cO fZ xs[i].aS.needs:Int)+(cO bJ xs[i].aS.tolerances:Int)+1) = xs[i].seq:=congrArg (fun z:Placed=>z.seq) hfix
   have q8:wr.cell? ⟨b,o+i * 9+8,none⟩ = some (.int .i64 xs[i].seq):=by have:=hc 8 _ rfl;rwa [show o+(i * Dat.size Placed+8) = o+i * 9+8 from by show o+(i * 9+8) = _;omega] at this
   rw [← e8] at q8
   clear e8
   clear hc hfix
   go_wp2_with fail
   refine aF wr (by kernel_rfl) (by kernel_rfl) (aj _) ?_
   repeat (first
    | (apply aG
       case hw=>rfl
       simp only [Act.put,pz])
    | (apply aH
       case hw=>rfl
       case h =>
        exact Zaa4
       simp only [Act.put,pz]))
   refine aN ?_
   intro wn1 hn1
   replace hn1:=hn1.out
   replace q0:=((ay hn1).1 b _ hbs).trans q0
   replace q1:=((ay hn1).1 b _ hbs).trans q1
   replace iE:=Sl.ext iE hn1
   replace q2:=((ay hn1).1 b _ hbs).trans q2
   replace q3:=((ay hn1).1 b _ hbs).trans q3
   replace q4:=((ay hn1).1 b _ hbs).trans q4
   replace q5:=((ay hn1).1 b _ hbs).trans q5
   replace je:=Sl.ext je hn1
   replace q6:=((ay hn1).1 b _ hbs).trans q6
   replace dN:=Sl.ext dN hn1
   replace q7:=((ay hn1).1 b _ hbs).trans q7
   replace q8:=((ay hn1).1 b _ hbs).trans q8
   replace hbs:=Nat.lt_of_lt_of_le hbs hn1.size
   replace hbl:=ah hbl hn1
   go_wp2_with fail
   refine (ER xs[i].aS.labels _ _ _ _ (kk+1) _ iE rfl e1 (by omega) (by omega)).mono ?_
   rintro e wn2 ⟨rfl,hn2⟩
   replace q0:=((ay hn2).1 b _ hbs).trans q0
   replace q1:=((ay hn2).1 b _ hbs).trans q1
   replace iE:=Sl.ext iE hn2
   replace q2:=((ay hn2).1 b _ hbs).trans q2
   replace q3:=((ay hn2).1 b _ hbs).trans q3
   replace q4:=((ay hn2).1 b _ hbs).trans q4
   replace q5:=((ay hn2).1 b _ hbs).trans q5
   replace je:=Sl.ext je hn2
   replace q6:=((ay hn2).1 b _ hbs).trans q6
   replace dN:=Sl.ext dN hn2
   replace q7:=((ay hn2).1 b _ hbs).trans q7
   replace q8:=((ay hn2).1 b _ hbs).trans q8
   replace hbs:=Nat.lt_of_lt_of_le hbs hn2.size
   replace hbl:=ah hbl hn2
   go_wp2_with fail
   refine (ZQ xs[i].aS.needs _ _ _ _ (kk+1+(cO bC xs[i].aS.labels:Int)+1+1+1) _ je rfl e5 (by omega) (by omega)).mono ?_
   rintro e wn3 ⟨rfl,hn3⟩
   replace q0:=((ay hn3).1 b _ hbs).trans q0
   replace q1:=((ay hn3).1 b _ hbs).trans q1
   replace iE:=Sl.ext iE hn3
   replace q2:=((ay hn3).1 b _ hbs).trans q2
   replace q3:=((ay hn3).1 b _ hbs).trans q3
   replace q4:=((ay hn3).1 b _ hbs).trans q4
   replace q5:=((ay hn3).1 b _ hbs).trans q5
   replace je:=Sl.ext je hn3
   replace q6:=((ay hn3).1 b _ hbs).trans q6
   replace dN:=Sl.ext dN hn3
   replace q7:=((ay hn3).1 b _ hbs).trans q7
   replace q8:=((ay hn3).1 b _ hbs).trans q8
   replace hbs:=Nat.lt_of_lt_of_le hbs hn3.size
   replace hbl:=ah hbl hn3
   go_wp2_with fail
   refine (Qx xs[i].aS.tolerances _ _ _ _ (kk+1+(cO bC xs[i].aS.labels:Int)+1+1+1+(cO fZ xs[i].aS.needs:Int)) _ dN rfl e6 (by omega) (by omega)).mono ?_
   rintro e wn4 ⟨rfl,hn4⟩
   replace q0:=((ay hn4).1 b _ hbs).trans q0
   replace q1:=((ay hn4).1 b _ hbs).trans q1
   replace iE:=Sl.ext iE hn4
   replace q2:=((ay hn4).1 b _ hbs).trans q2
   replace q3:=((ay hn4).1 b _ hbs).trans q3
   replace q4:=((ay hn4).1 b _ hbs).trans q4
   replace q5:=((ay hn4).1 b _ hbs).trans q5
   replace je:=Sl.ext je hn4
   replace q6:=((ay hn4).1 b _ hbs).trans q6
   replace dN:=Sl.ext dN hn4
   replace q7:=((ay hn4).1 b _ hbs).trans q7
   replace q8:=((ay hn4).1 b _ hbs).trans q8
   replace hbs:=Nat.lt_of_lt_of_le hbs hn4.size
   replace hbl:=ah hbl hn4
   go_wp2_with fail
   refine aF wn4 (by kernel_rfl) (by kernel_rfl) (aj _) ?_
   repeat (first
    | (apply aG
       case hw=>rfl
       simp only [Act.put,pz])
    | (apply aH
       case hw=>rfl
       case h =>
        intro wq hq
        have hcq:=(aB hq).1
        have lJ:=(aB hq).2
        go_simp
        first
         | exact ⟨hq,rfl⟩
         | exact ⟨aQ hq _,rfl⟩
         | (refine (lW (kk+1+(cO bC xs[i].aS.labels:Int)+1+1+1+(cO fZ xs[i].aS.needs:Int)+(cO bJ xs[i].aS.tolerances:Int)) _ (by omega) (by omega)).mono ?_;rintro e w2 ⟨rfl,hb2⟩;exact ⟨rfl,aI hq hb2⟩)
         | (simp only [↓IntWalk.iteOmega];exact ⟨hq,rfl⟩)
       simp only [Act.put,pz]))
   refine aN ?_
   intro wn5 YW
   replace YW:=YW.out
   replace q0:=((ay YW).1 b _ hbs).trans q0
   replace q1:=((ay YW).1 b _ hbs).trans q1
   replace iE:=Sl.ext iE YW
   replace q2:=((ay YW).1 b _ hbs).trans q2
   replace q3:=((ay YW).1 b _ hbs).trans q3
   replace q4:=((ay YW).1 b _ hbs).trans q4
   replace q5:=((ay YW).1 b _ hbs).trans q5
   replace je:=Sl.ext je YW
   replace q6:=((ay YW).1 b _ hbs).trans q6
   replace dN:=Sl.ext dN YW
   replace q7:=((ay YW).1 b _ hbs).trans q7
   replace q8:=((ay YW).1 b _ hbs).trans q8
   replace hbs:=Nat.lt_of_lt_of_le hbs YW.size
   replace hbl:=ah hbl YW
   go_wp2
   refine ⟨⟨i+1,by omega,by go_num,?_,hbl⟩,by simp [intOf];omega⟩
   rw [JQ];simp only [jh];congr 1;push_cast;omega
  ·exact Zabt
end Go.Proofs.YtogkjlcoadhpgaaGreat
