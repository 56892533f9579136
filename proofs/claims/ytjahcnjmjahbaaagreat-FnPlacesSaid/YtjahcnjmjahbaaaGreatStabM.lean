/- A table of rows in one block: elements are swapped in place. No condition. -/
import Derived.Test.YtjahcnjmjahbaaaGreatRoomK
import Derived.Deep.RegionLaw
namespace Go.Proofs.YtjahcnjmjahbaaaGreat
open Go.ChangeShapes Go.WideShapes Go.ChangeAt Go.RowKit
set_option linter.unusedVariables false
set_option linter.unusedSimpArgs false
set_option maxHeartbeats 2000000
set_option maxRecDepth 100000
section
variable {β:Type} {row:β→List Value} {S:Nat}
def qt (row:β→List Value) (S:Nat) (w:World) (b o:Nat) (D:List β):Prop:=∀k x,D[k]? = some x→∀j u,(row x)[j]? = some u→w.cell? ⟨b,o+k * S+j,none⟩ = some u
theorem qt.put {w:World} {b o:Nat} {D:List β} (h:qt row S w b o D) (hS:∀x,(row x).length = S) {i:Nat} (hi:i < D.length) (y:β):qt row S (w.setCells b (o+i * S) (row y)) b o (D.set i y):=by
 intro k x hk j u hj;have K3:j < S:=by rw [← hS x];exact (List.getElem?_eq_some_iff.1 hj).1
 have hex:∀q,q < (row y).length→(w.cell? ⟨b,o+i * S+q,none⟩).isSome = true:=fun q hq=>by
  rw [hS] at hq;have hx:=h i D[i] (List.getElem?_eq_getElem hi) q ((row D[i])[q]'(by rw [hS];exact hq)) (List.getElem?_eq_getElem _);rw [hx];rfl
 by_cases hik:i = k
 ·subst hik;rw [List.getElem?_set_self hi] at hk;obtain rfl:=Option.some.inj hk;have:=World.cell?_setCells_in b (row y) (o+i * S) w hex j (by rw [hS];exact K3);rw [this,← hj];exact (List.getElem?_eq_getElem _).symm
 ·rw [List.getElem?_set_ne hik] at hk;rw [World.cell?_setCells_out b _ _ _ _ (fun _ _=>?_)]
  ·exact h k x hk j u hj
  ·dsimp only;rw [hS];rcases Nat.lt_or_gt_of_ne hik with h1 | h1
   ·right;have:(i+1) * S≤k * S:=Nat.mul_le_mul_right _ h1;rw [Nat.succ_mul] at this;omega
   ·left;have:(k+1) * S≤i * S:=Nat.mul_le_mul_right _ h1;rw [Nat.succ_mul] at this;omega
theorem qt.jC {w:World} {b o:Nat} {D:List β} (h:qt row S w b o D) {k:Nat} (hk:k < D.length) {j:Nat} {u:Value} (hj:(row D[k])[j]? = some u):w.cell? ⟨b,o+k * S+j,none⟩ = some u:=h k D[k] (List.getElem?_eq_getElem hk) j u hj
theorem qt.bJ {w w':World} {b o:Nat} {D:List β} (h:qt row S w b o D) (hk:w'.heap[b]? = w.heap[b]?):qt row S w' b o D:=fun k x hx j u hj=>(World.cell?_of_block hk).trans (h k x hx j u hj)
theorem qt.ext {w w':World} {b o:Nat} {D:List β} (h:qt row S w b o D) (hb:b < w.heap.size) (he:Below w.heap.size w w'):qt row S w' b o D:=h.bJ (he.block b hb)
def WQ (D:List β) (i j:Nat):List β:=match D[i]?,D[j]? with | some x,some y=>(D.set i y).set j x | _,_=>D
theorem asA {D:List β} {i j:Nat} (hi:i < D.length) (hj:j < D.length):WQ D i j = (D.set i D[j]).set j D[i]:=by unfold WQ;rw [List.getElem?_eq_getElem hi,List.getElem?_eq_getElem hj]
structure jJ (row:β→List Value) (S:Nat) (w0 w:World) (b o:Nat) (D:List β):Prop where
 bB:qt row S w b o D
 plain:eM w b
 cN:nN [b] w0 w
theorem jJ.ext {w0 w w':World} {b o:Nat} {D:List β} (h:jJ row S w0 w b o D) (he:Below w.heap.size w w'):jJ row S w0 w' b o D :=
 ⟨h.bB.ext h.plain.lt he,by obtain ⟨ds,t,hp⟩:=h.plain;exact ⟨ds,t,(he.block b h.plain.lt).trans hp⟩,h.cN.trans (nN.lq _ he)⟩
theorem jJ.put {w0 w:World} {b o:Nat} {D:List β} (h:jJ row S w0 w b o D) (hS:∀x,(row x).length = S) {i:Nat} (hi:i < D.length) (y:β):jJ row S w0 (w.setCells b (o+i * S) (row y)) b o (D.set i y):=by
 refine ⟨h.bB.put hS hi y,EK b _ _ _ h.plain,?_⟩;have e:=F8 b (row y) (o+i * S) w;exact h.cN.trans ⟨e.1,e.2.1,e.2.2,by rw [gf];exact Nat.le_refl _,fun k _ hk=>vV b L7 _ _ _⟩
theorem jJ.swap {w0 w:World} {b o:Nat} {D:List β} (h:jJ row S w0 w b o D) (hS:∀x,(row x).length = S) {i j:Nat} (hi:i < D.length) (hj:j < D.length) :
 jJ row S w0 ((w.setCells b (o+i * S) (row D[j])).setCells b (o+j * S) (row D[i])) b o (WQ D i j):=by
 rw [asA hi hj];exact (h.put hS hi D[j]).put hS (by rw [List.length_set];exact hj) D[i]
theorem jx (A B:List β) (x y:β) (n:Nat) (hn:A.length = n):(A++x :: B).set n y = A++y :: B:=by
 subst hn;rw [List.set_append_right _ _ (Nat.le_refl _),Nat.sub_self,List.set_cons_zero]
theorem Yu (p u m v q:List β) (k:Nat) (hk:k < u.length) (hl:u.length = v.length) :
 WQ (p++(v.take k++(u.drop k++(m++(u.take k++(v.drop k++q)))))) (p.length+k) (p.length+u.length+m.length+k) = p++(v.take (k+1)++(u.drop (k+1)++(m++(u.take (k+1)++(v.drop (k+1)++q))))):=by
 have qS:k < v.length:=by omega
 have e1:(v.take k).length = k:=by rw [List.length_take];omega
 have e2:(u.take k).length = k:=by rw [List.length_take];omega
 obtain ⟨a,ha⟩:∃a,u[k] = a:=⟨_,rfl⟩;obtain ⟨c,hc⟩:∃c,v[k] = c:=⟨_,rfl⟩;have du:u.drop k = a :: u.drop (k+1):=by rw [← ha];exact (List.getElem_cons_drop ..).symm
 have dv:v.drop k = c :: v.drop (k+1):=by rw [← hc];exact (List.getElem_cons_drop ..).symm
 have tu:u.take (k+1) = u.take k++[a]:=by rw [← ha];exact List.take_succ_eq_append_getElem hk
 have tv:v.take (k+1) = v.take k++[c]:=by rw [← hc];exact List.take_succ_eq_append_getElem qS
 have lu:(u.drop (k+1)).length = u.length - (k+1):=by rw [List.length_drop]
 rw [du,dv,tu,tv];have gi:(p++(v.take k++(a :: u.drop (k+1)++(m++(u.take k++(c :: v.drop (k+1)++q))))))[p.length+k]? = some a:=by rw [List.getElem?_append_right O,List.getElem?_append_right O];simp [e1]
 have gj:(p++(v.take k++(a :: u.drop (k+1)++(m++(u.take k++(c :: v.drop (k+1)++q))))))[p.length+u.length+m.length+k]? = some c:=by rw [List.getElem?_append_right O,List.getElem?_append_right O,List.getElem?_append_right (by simp;omega),List.getElem?_append_right (by simp;omega),List.getElem?_append_right (by simp;omega),e1,e2];simp only [List.length_cons,lu,List.cons_append];rw [show p.length+u.length+m.length+k - p.length - k - (u.length - (k+1)+1) - m.length - k = 0 by omega];rfl
 unfold WQ;rw [gi,gj];dsimp only;have s1:(p++(v.take k++(a :: u.drop (k+1)++(m++(u.take k++(c :: v.drop (k+1)++q)))))).set (p.length+k) c = p++(v.take k++(c :: u.drop (k+1)++(m++(u.take k++(c :: v.drop (k+1)++q))))):=by
  have h:=jx (p++v.take k) (u.drop (k+1)++(m++(u.take k++(c :: v.drop (k+1)++q)))) a c (p.length+k) (by rw [List.length_append,e1]);simpa only [List.append_assoc,List.cons_append] using h
 have s2:(p++(v.take k++(c :: u.drop (k+1)++(m++(u.take k++(c :: v.drop (k+1)++q)))))).set (p.length+u.length+m.length+k) a = p++(v.take k++(c :: u.drop (k+1)++(m++(u.take k++(a :: v.drop (k+1)++q))))):=by have h:=jx (p++(v.take k++(c :: u.drop (k+1)++(m++u.take k)))) (v.drop (k+1)++q) c a (p.length+u.length+m.length+k) (by simp only [List.length_append,List.length_cons,e1,e2,lu];omega);simpa only [List.append_assoc,List.cons_append] using h
 rw [s1,s2];simp only [List.append_assoc,List.cons_append,List.nil_append]
theorem Yz (p u m v q:List β) (k:Nat) (hk:k < u.length) (hl:u.length = v.length):(p++(v.take k++(u.drop k++(m++(u.take k++(v.drop k++q))))))[p.length+k]? = some u[k]:=by
 have e1:(v.take k).length = k:=by rw [List.length_take];omega
 rw [List.getElem?_append_right O,List.getElem?_append_right O,e1,show p.length+k - p.length - k = 0 by omega,List.getElem?_append_left Pw,List.getElem?_drop,Nat.add_zero];exact List.getElem?_eq_getElem hk
theorem YA (p u m v q:List β) (k:Nat) (hk:k < v.length) (hl:u.length = v.length):(p++(v.take k++(u.drop k++(m++(u.take k++(v.drop k++q))))))[p.length+u.length+m.length+k]? = some v[k]:=by
 have e1:(v.take k).length = k:=by rw [List.length_take];omega
 have e2:(u.take k).length = k:=by rw [List.length_take];omega
 have e3:(u.drop k).length = u.length - k:=List.length_drop
 rw [List.getElem?_append_right O,List.getElem?_append_right O,List.getElem?_append_right O,List.getElem?_append_right O,List.getElem?_append_right O,e1,e2,e3,
   show p.length+u.length+m.length+k - p.length - k - (u.length - k) - m.length - k = 0 by omega,List.getElem?_append_left Pw,List.getElem?_drop,Nat.add_zero]
 exact List.getElem?_eq_getElem hk
theorem jJ.iB {w0 w:World} {b o:Nat} {D:List β} (h:jJ row S w0 w b o D) (hS:∀x,(row x).length = S) {i j:Nat} {x y:β} (hi:D[i]? = some x) (hj:D[j]? = some y) :
 jJ row S w0 ((w.setCells b (o+i * S) (row y)).setCells b (o+j * S) (row x)) b o (WQ D i j):=by
 obtain ⟨hi1,rfl⟩:=List.getElem?_eq_some_iff.1 hi;obtain ⟨PN,rfl⟩:=List.getElem?_eq_some_iff.1 hj;exact h.swap hS hi1 PN
end
structure Eb where
 name:ByteArray
 la:Option Addr
 ln:Nat
 lc:Nat
 aw:Int
 mem:Int
 av:Int
 na:Option Addr
 nn:Nat
 nc:Nat
 ta:Option Addr
 tn:Nat
 tc:Nat
 on:ByteArray
 seq:Int
def tH (x:Eb):List Value:=[.string x.name,.slice x.la x.ln x.lc,.int .i64 x.aw,.int .i64 x.mem,.int .i64 x.av,.slice x.na x.nn x.nc,.slice x.ta x.tn x.tc,.string x.on,.int .i64 x.seq]
section
theorem QH (W0 w:World) (b o c N:Nat) (p u m v q:List Eb) (a bb n:Nat) (f:Value) (h:jJ tH 9 W0 w b o (p++(u++(m++(v++q))))) (hN:(p++(u++(m++(v++q)))).length≤N) (BI:N≤1048576) (ha:Hid (p.length = a)) (hu:Hid (u.length = n)) (hv:Hid (v.length = n)) (hm:Hid (p.length+u.length+m.length = bb)) :
 Calls Tryz.prog 221 #[.slice (some ⟨b,o,none⟩) N c,.int .i64 a,.int .i64 bb,.int .i64 n,f] w fun e w'=>e = .returned (.tuple #[])∧jJ tH 9 W0 w' b o (p++(v++(m++(u++q)))):=by
 have b5:a+n+m.length+n≤N:=by have e1:=ha.out;have e2:=hu.out;have e3:=hv.out;simp only [List.length_append] at hN;omega
 have fR:bb = a+n+m.length:=by have e1:=ha.out;have e2:=hu.out;have e3:=hm.out;omega
 have nr:=I fR;have bm:a+n≤bb:=by omega
 have ao:bb+n≤N:=by omega
 clear fR;go_enter Tryz.func221,Tryz.ntmps221;go_wp2_with fail
 go_loopw [10] (fun i wr=>∃k:Nat,k≤n∧i = .int .i64 k∧jJ tH 9 W0 wr b o (p++(v.take k++(u.drop k++(m++(u.take k++(v.drop k++q))))))) (fun i _=>n - (intOf i).toNat)
 case atStart=>exact ⟨0,Nat.zero_le _,rfl,by simpa using h⟩
 case round =>
  obtain ⟨k,hk,rfl,hS⟩:=hrel;by_cases ap:k < n
  ·have M3:k < u.length:=(by have:=hu.out;omega);have qS:k < v.length:=(by have:=hv.out;omega);have wA:u.length = v.length:=(by rw [hu.out,hv.out]);have gl:=Yz p u m v q k M3 wA;have gr:=YA p u m v q k qS wA;have sg:=Yu p u m v q k M3 wA;rw [hm.out] at gr sg;rw [ha.out] at gl sg;generalize u[k] = x at gl;generalize v[k] = y at gr;have HS:=I hS;have xc:wr.cell? ⟨b,o+(a+k) * 9,none⟩ = some (.string x.name):=hS.bB _ x gl 0 _ rfl;have xd:wr.cell? ⟨b,o+(a+k) * 9+1,none⟩ = some (.slice x.la x.ln x.lc):=hS.bB _ x gl 1 _ rfl;have xe:wr.cell? ⟨b,o+(a+k) * 9+2,none⟩ = some (.int .i64 x.aw):=hS.bB _ x gl 2 _ rfl;have xf:wr.cell? ⟨b,o+(a+k) * 9+3,none⟩ = some (.int .i64 x.mem):=hS.bB _ x gl 3 _ rfl;have xh:wr.cell? ⟨b,o+(a+k) * 9+4,none⟩ = some (.int .i64 x.av):=hS.bB _ x gl 4 _ rfl;have xi:wr.cell? ⟨b,o+(a+k) * 9+5,none⟩ = some (.slice x.na x.nn x.nc):=hS.bB _ x gl 5 _ rfl;have xj:wr.cell? ⟨b,o+(a+k) * 9+6,none⟩ = some (.slice x.ta x.tn x.tc):=hS.bB _ x gl 6 _ rfl;have xl:wr.cell? ⟨b,o+(a+k) * 9+7,none⟩ = some (.string x.on):=hS.bB _ x gl 7 _ rfl;have xm:wr.cell? ⟨b,o+(a+k) * 9+8,none⟩ = some (.int .i64 x.seq):=hS.bB _ x gl 8 _ rfl;have qX:wr.cell? ⟨b,o+(bb+k) * 9,none⟩ = some (.string y.name):=hS.bB _ y gr 0 _ rfl;have ra:wr.cell? ⟨b,o+(bb+k) * 9+1,none⟩ = some (.slice y.la y.ln y.lc):=hS.bB _ y gr 1 _ rfl;have rc:wr.cell? ⟨b,o+(bb+k) * 9+2,none⟩ = some (.int .i64 y.aw):=hS.bB _ y gr 2 _ rfl;have re:wr.cell? ⟨b,o+(bb+k) * 9+3,none⟩ = some (.int .i64 y.mem):=hS.bB _ y gr 3 _ rfl;have rg:wr.cell? ⟨b,o+(bb+k) * 9+4,none⟩ = some (.int .i64 y.av):=hS.bB _ y gr 4 _ rfl;have rh:wr.cell? ⟨b,o+(bb+k) * 9+5,none⟩ = some (.slice y.na y.nn y.nc):=hS.bB _ y gr 5 _ rfl;have ri:wr.cell? ⟨b,o+(bb+k) * 9+6,none⟩ = some (.slice y.ta y.tn y.tc):=hS.bB _ y gr 6 _ rfl;have rj:wr.cell? ⟨b,o+(bb+k) * 9+7,none⟩ = some (.string y.on):=hS.bB _ y gr 7 _ rfl;have rm:wr.cell? ⟨b,o+(bb+k) * 9+8,none⟩ = some (.int .i64 y.seq):=hS.bB _ y gr 8 _ rfl;have qf:=hS.plain.frozen;have ql:=hS.plain.lt;have xv:=I gl;have TL:=I gr;have TO:=I sg;clear hS gl gr sg wA;go_wp2_with fail
   go_region
   go_wp2;have h2:=HS.out.iB (fun _=>rfl) xv.out TL.out;rw [TO.out] at h2;exact ⟨⟨k+1,O,N',jJ.ext h2 (aA (aj _))⟩,by simp [intOf];omega⟩
  ·exact JN
theorem Fg (W0 w:World) (b o c N:Nat) (p u v q:List Eb) (a mm bb:Nat) (f:Value) (h:jJ tH 9 W0 w b o (p++(u++(v++q)))) (hN:(p++(u++(v++q))).length≤N) (BI:N≤1048576) (ha:Hid (p.length = a)) (hm:Hid (a+u.length = mm)) (hb:Hid (mm+v.length = bb)) (Xy:0 < u.length) (gb:0 < v.length) :
 Calls Tryz.prog 201 #[.slice (some ⟨b,o,none⟩) N c,.int .i64 a,.int .i64 mm,.int .i64 bb,f] w fun e w'=>e = .returned (.tuple #[])∧jJ tH 9 W0 w' b o (p++(v++(u++q))):=by
 have b5:a+u.length+v.length≤N:=by have e1:=ha.out;simp only [List.length_append] at hN;omega
 have x9:a+u.length = mm:=hm.out;have fR:mm+v.length = bb:=hb.out;have HM:=I x9;have HB:=I fR;have h1:a≤mm:=by omega
 have h2:mm≤bb:=by omega
 have h3:bb≤N:=by omega
 have MO:=I hN;clear x9 fR hN;go_enter Tryz.func201,Tryz.ntmps201;go_wp2_with fail
 go_loopw [10,11] (fun i j wr=>∃A U V B:List Eb,i = .int .i64 U.length∧j = .int .i64 V.length∧0 < U.length∧0 < V.length∧Hid (v++u = A++(V++(U++B)))∧Hid (p.length+A.length+U.length = mm)∧jJ tH 9 W0 wr b o (p++(A++(U++(V++(B++q)))))) (fun i j _=>(intOf i).toNat+(intOf j).toNat)
 case atStart =>exact Kx
 case round =>
  obtain ⟨A,U,V,B,rfl,rfl,hU,hV,hE,hP,hS⟩:=hrel;have er:A.length+U.length+V.length+B.length = u.length+v.length:=by have:=congrArg List.length hE.out;simp only [List.length_append] at this;omega
  have mu:p.length+A.length+U.length = mm:=hP.out;have hUm:U.length≤mm:=by omega
  have bE:mm+V.length≤N:=by have e1:=ha.out;have e2:=HM.out;omega
  have ul:=I er;have qi:=I mu;have HS:=I hS;clear er mu hS;have wC:(p++(u++(v++q))).length = p.length+u.length+v.length+q.length:=by simp only [List.length_append];omega
  have Pk:=I wC;clear wC;rcases Nat.lt_trichotomy U.length V.length with ap | vm | nv
  ·have cA:((U.length:Int) != V.length) = true:=(by simp;omega);go_wp2_with fail
   obtain ⟨V1,V2,rfl,hV2⟩:∃V1 V2,V = V1++V2∧V2.length = U.length:=⟨V.take (V.length - U.length),V.drop (V.length - U.length),(List.take_append_drop ..).symm,by rw [List.length_drop];omega⟩;have mu:=qi.out;have er:=ul.out;have hl:(V1++V2).length = V1.length+V2.length:=List.length_append ..;rw [show (mm:Int) - U.length = ((p.length+A.length:Nat):Int) by omega,show (mm:Int)+(V1++V2).length - U.length = ((mm+V1.length:Nat):Int) by omega];refine (QH W0 wr b o c N (p++A) U V1 V2 (B++q) (p.length+A.length) (mm+V1.length) U.length f D5 ?_ BI (I S') (I rfl) (I hV2) (I ?_)).mono ?_
   ·exact vq
   ·simp only [List.length_append];omega
   exact JF
  ·have cA:((U.length:Int) != V.length) = false:=(by simp;omega);go_wp2_with fail
   have mu:=qi.out;have er:=ul.out;rw [show (mm:Int) - V.length = ((p.length+A.length:Nat):Int) by omega];refine (QH W0 wr b o c N (p++A) U [] V (B++q) (p.length+A.length) mm V.length f D5 ?_ BI (I S') (I vm) (I rfl) (I ?_)).mono ?_
   ·have:=MO.out;have:=Pk.out;simp only [List.length_append,List.length_nil] at *;omega
   ·simp only [List.length_append,List.length_nil];omega
   exact Jx
  ·have cA:((U.length:Int) != V.length) = true:=(by simp;omega);go_wp2_with fail
   obtain ⟨U1,U2,rfl,hU1⟩:∃U1 U2,U = U1++U2∧U1.length = V.length:=⟨U.take V.length,U.drop V.length,(List.take_append_drop ..).symm,by rw [List.length_take];omega⟩;have mu:=qi.out;have er:=ul.out;have hl:(U1++U2).length = U1.length+U2.length:=List.length_append ..;rw [show (mm:Int) - (U1++U2).length = ((p.length+A.length:Nat):Int) by omega];refine (QH W0 wr b o c N (p++A) U1 U2 V (B++q) (p.length+A.length) mm V.length f D5 ?_ BI (I S') (I hU1) (I rfl) (I ?_)).mono ?_
   ·exact vq
   ·simp only [List.length_append];omega
   exact Jp
end
def kS {β:Type} (cv:β→β→Int) (x y:β):Bool:=decide (cv x y < 0)
section
variable {β:Type} {lt:β→β→Bool}
theorem bO.jC {l:List β} (h:bO lt l) {t u:Nat} (htu:t < u) (hu:u < l.length):lt l[u] (l[t]'O) = false :=
 List.pairwise_iff_getElem.1 h t u O hu htu
theorem YD {l:List β} {k:Nat} {z:β} (h:z∈l.take k):∃t,∃ht:t < l.length,t < k∧l[t] = z:=by
 obtain ⟨t,ht,e⟩:=List.mem_iff_getElem.1 h;rw [List.length_take] at ht;exact ⟨t,O,O,by rw [← e,List.getElem_take]⟩
theorem YI {l:List β} {k:Nat} {z:β} (h:z∈l.drop k):∃t,∃ht:t < l.length,k≤t∧l[t] = z:=by
 obtain ⟨t,ht,e⟩:=List.mem_iff_getElem.1 h;rw [List.length_drop] at ht;exact ⟨k+t,O,O,by rw [← e,List.getElem_drop]⟩
theorem acA (W:da lt) {r:List β} (hr:bO lt r) {x:β} {k:Nat} (hk:k < r.length) (h:lt r[k] x = true):∀y∈r.take (k+1),lt y x = true:=by
 intro y hy;obtain ⟨t,ht,lZ,rfl⟩:=YD hy;rcases Nat.lt_or_ge t k with h1 | h1
 ·exact W.right (hr.jC h1 hk) h
 ·obtain rfl:t = k:=by omega
  exact h
theorem ad7 (W:da lt) {r:List β} (hr:bO lt r) {x:β} {k:Nat} (hk:k < r.length) (h:lt r[k] x = false):∀y∈r.drop k,lt y x = false:=by
 intro y hy;obtain ⟨t,ht,lZ,rfl⟩:=YI hy;rcases Nat.lt_or_ge k t with h1 | h1
 ·exact W.neg _ _ _ (hr.jC h1 ht) h
 ·obtain rfl:t = k:=by omega
  exact h
theorem acB (W:da lt) {l:List β} (hl:bO lt l) {y:β} {k:Nat} (hk:k < l.length) (h:lt y l[k] = false):∀x∈l.take (k+1),lt y x = false:=by
 intro x hx;obtain ⟨t,ht,lZ,rfl⟩:=YD hx;rcases Nat.lt_or_ge t k with h1 | h1
 ·exact W.neg _ _ _ h (hl.jC h1 hk)
 ·obtain rfl:t = k:=by omega
  exact h
theorem Z9 (W:da lt) {l:List β} (hl:bO lt l) {y:β} {k:Nat} (hk:k < l.length) (h:lt y l[k] = true):∀x∈l.drop k,lt y x = true:=by
 intro x hx;obtain ⟨t,ht,lZ,rfl⟩:=YI hx;rcases Nat.lt_or_ge k t with h1 | h1
 ·exact W.left h (hl.jC h1 ht)
 ·obtain rfl:t = k:=by omega
  exact h
theorem Yw {x:β} {r:List β} {k:Nat} (h1:∀y∈r.take k,lt y x = true) (h2:∀y∈r.drop k,lt y x = false):fO lt [x] r = r.take k++x :: r.drop k:=by
 have:=aeO h1 h2;rwa [List.take_append_drop] at this
theorem WR {y:β} {l:List β} {k:Nat} (h1:∀x∈l.take k,lt y x = false) (h2:∀x∈l.drop k,lt y x = true):fO lt l [y] = l.take k++y :: l.drop k:=by
 have:=UU h1 h2;rwa [List.take_append_drop] at this
theorem Wm (W:da lt) {l r:List β} (hl:bO lt l) (hr:bO lt r) {d s lo hi:Nat} (iN:lo = 0∨lo+r.length = d) (nd:hi = l.length∨hi = d) (h1:lo≤s) (h2:s≤hi) (hd:s≤d) (ia:s≤l.length)
 (p1:s = lo∨∃x y,l[s - 1]? = some x∧r[d - s]? = some y∧lt y x = false) (p2:s = hi∨∃x y,l[s]? = some x∧r[d - 1 - s]? = some y∧lt y x = true) :
 fO lt l r = fO lt (l.take s) (r.take (d - s))++fO lt (l.drop s) (r.drop (d - s)):=by
 rw [← aql W (l1:=l.take s) (l2:=l.drop s) (r1:=r.take (d - s)) (r2:=r.drop (d - s))]
 ·rw [List.take_append_drop,List.take_append_drop]
 ·rw [List.take_append_drop];exact hl
 ·rw [List.take_append_drop];exact hr
 ·by_cases e:s = hi
  ·rcases nd with h | h
   ·right;left;rw [List.drop_eq_nil_iff];omega
   ·left;rw [show d - s = 0 by omega];rfl
  ·obtain ⟨x,y,hx,hy,ap⟩:=p2.resolve_left e;obtain ⟨tY,rfl⟩:=List.getElem?_eq_some_iff.1 hx;obtain ⟨mT,rfl⟩:=List.getElem?_eq_some_iff.1 hy;by_cases e2:s = d
   ·left;rw [show d - s = 0 by omega];rfl
   ·right;right;refine ⟨r.take (d - 1 - s),_,_,l.drop (s+1),?_,(List.getElem_cons_drop tY).symm,ap⟩;rw [← List.take_succ_eq_append_getElem mT];congr 1;omega
 ·by_cases e:s = lo
  ·rcases iN with h | h
   ·left;rw [show s = 0 by omega];rfl
   ·right;left;rw [List.drop_eq_nil_iff];omega
  ·obtain ⟨x,y,hx,hy,ap⟩:=p1.resolve_left e;obtain ⟨tY,rfl⟩:=List.getElem?_eq_some_iff.1 hx;obtain ⟨mT,rfl⟩:=List.getElem?_eq_some_iff.1 hy;right;right;refine ⟨l.take (s - 1),_,_,r.drop (d - s+1),?_,(List.getElem_cons_drop mT).symm,ap⟩;rw [← List.take_succ_eq_append_getElem tY];congr 1;omega
theorem YJ {s:Nat} (hs:0 < s):∀(n:Nat) (xs:List β),xs.length≤n→(dz lt s xs).length = xs.length:=by
 intro n;induction n with
 | zero =>intro xs h;have:xs = []:=List.eq_nil_of_length_eq_zero O;subst this;rw [Yi]
 | succ n ih =>
   intro xs h;rcases Nat.lt_or_ge s xs.length with h1 | h1
   ·rw [Ky hs,List.length_append,rD,ih (xs.drop s) Pw,List.length_take,List.length_drop,List.length_nil];omega
   ·rw [zo h1,rD,List.length_nil];omega
theorem wY (p s r:List β) (x y:β) {n:Nat} (hn:p.length+s.length = n):(p++(s++(x :: y :: r)))[n]? = some x:=by
 subst hn;rw [List.getElem?_append_right O,List.getElem?_append_right O,show p.length+s.length - p.length - s.length = 0 by omega];rfl
theorem wZ (p s r:List β) (x y:β) {n:Nat} (hn:p.length+s.length = n):(p++(s++(x :: y :: r)))[n+1]? = some y:=by
 subst hn;rw [List.getElem?_append_right O,List.getElem?_append_right O,show p.length+s.length+1 - p.length - s.length = 1 by omega];rfl
theorem YK (p s r:List β) (x z:β) {n:Nat} (hn:p.length+s.length = n):(p++(s++(x :: r))).set n z = p++(s++(z :: r)):=by
 have:=jx (p++s) r x z n (by rw [List.length_append,hn]);simpa only [List.append_assoc] using this
theorem YL (p s r:List β) (x y z:β) {n:Nat} (hn:p.length+s.length = n):(p++(s++(x :: y :: r))).set (n+1) z = p++(s++(x :: z :: r)):=by
 have:=jx (p++(s++[x])) r y z (n+1) (by simp only [List.length_append,List.length_cons,List.length_nil];omega);simpa only [List.append_assoc,List.cons_append,List.nil_append] using this
theorem YN (p s r:List β) (x y:β) {n:Nat} (hn:p.length+s.length = n):WQ (p++(s++(x :: y :: r))) n (n+1) = p++(s++(y :: x :: r)):=by
 unfold WQ;rw [wY p s r x y hn,wZ p s r x y hn];dsimp only;rw [YK p s _ x y hn,YL p s r y y x hn]
theorem V7 (p s r:List β) (x y:β) {n:Nat} (hn:p.length+s.length = n):WQ (p++(s++(x :: y :: r))) (n+1) n = p++(s++(y :: x :: r)):=by
 unfold WQ;rw [wY p s r x y hn,wZ p s r x y hn];dsimp only;rw [YL p s r x y x hn,YK p s _ x y hn]
end
section
variable {β:Type} (nm:β→ByteArray)
theorem TW (W0 w:World) (b o c N:Nat) (p u m v q:List β) (a bb n:Nat) (f:Value) (h:jJ (fun x=>[Value.string (nm x)]) 1 W0 w b o (p++(u++(m++(v++q))))) (hN:(p++(u++(m++(v++q)))).length≤N) (BI:N≤1048576) (ha:Hid (p.length = a)) (hu:Hid (u.length = n)) (hv:Hid (v.length = n)) (hm:Hid (p.length+u.length+m.length = bb)) :
 Calls Tryz.prog 236 #[.slice (some ⟨b,o,none⟩) N c,.int .i64 a,.int .i64 bb,.int .i64 n,f] w fun e w'=>e = .returned (.tuple #[])∧jJ (fun x=>[Value.string (nm x)]) 1 W0 w' b o (p++(v++(m++(u++q)))):=by
 have b5:a+n+m.length+n≤N:=by have e1:=ha.out;have e2:=hu.out;have e3:=hv.out;simp only [List.length_append] at hN;omega
 have fR:bb = a+n+m.length:=by have e1:=ha.out;have e2:=hu.out;have e3:=hm.out;omega
 have nr:=I fR;have bm:a+n≤bb:=by omega
 have ao:bb+n≤N:=by omega
 clear fR;go_enter Tryz.func236,Tryz.ntmps236;go_wp2_with fail
 go_loopw [10] (fun i wr=>∃k:Nat,k≤n∧i = .int .i64 k∧jJ (fun x=>[Value.string (nm x)]) 1 W0 wr b o (p++(v.take k++(u.drop k++(m++(u.take k++(v.drop k++q))))))) (fun i _=>n - (intOf i).toNat)
 case atStart=>exact ⟨0,Nat.zero_le _,rfl,by simpa using h⟩
 case round =>
  obtain ⟨k,hk,rfl,hS⟩:=hrel;by_cases ap:k < n
  ·have M3:k < u.length:=(by have:=hu.out;omega);have qS:k < v.length:=(by have:=hv.out;omega);have wA:u.length = v.length:=(by rw [hu.out,hv.out]);have gl:=Yz p u m v q k M3 wA;have gr:=YA p u m v q k qS wA;have sg:=Yu p u m v q k M3 wA;rw [hm.out] at gr sg;rw [ha.out] at gl sg;generalize u[k] = x at gl;generalize v[k] = y at gr;have HS:=I hS;have qx:wr.cell? ⟨b,o+(a+k),none⟩ = some (.string (nm x)):=(by have:=hS.bB _ x gl 0 _ rfl;simpa using this);have qy:wr.cell? ⟨b,o+(bb+k),none⟩ = some (.string (nm y)):=(by have:=hS.bB _ y gr 0 _ rfl;simpa using this);have qf:=hS.plain.frozen;have ql:=hS.plain.lt;have xv:=I gl;have TL:=I gr;have TO:=I sg;clear hS gl gr sg wA;go_wp2_with fail
   go_region
   go_wp2;have h2:=HS.out.iB (fun _=>rfl) xv.out TL.out;rw [TO.out,Nat.mul_one,Nat.mul_one] at h2;exact ⟨⟨k+1,O,N',jJ.ext h2 (aA (aj _))⟩,by simp [intOf];omega⟩
  ·exact JN
theorem Ii (W0 w:World) (b o c N:Nat) (p u v q:List β) (a mm bb:Nat) (f:Value) (h:jJ (fun x=>[Value.string (nm x)]) 1 W0 w b o (p++(u++(v++q)))) (hN:(p++(u++(v++q))).length≤N) (BI:N≤1048576) (ha:Hid (p.length = a)) (hm:Hid (a+u.length = mm)) (hb:Hid (mm+v.length = bb)) (Xy:0 < u.length) (gb:0 < v.length) :
 Calls Tryz.prog 225 #[.slice (some ⟨b,o,none⟩) N c,.int .i64 a,.int .i64 mm,.int .i64 bb,f] w fun e w'=>e = .returned (.tuple #[])∧jJ (fun x=>[Value.string (nm x)]) 1 W0 w' b o (p++(v++(u++q))):=by
 have b5:a+u.length+v.length≤N:=by have e1:=ha.out;simp only [List.length_append] at hN;omega
 have x9:a+u.length = mm:=hm.out;have fR:mm+v.length = bb:=hb.out;have HM:=I x9;have HB:=I fR;have h1:a≤mm:=by omega
 have h2:mm≤bb:=by omega
 have h3:bb≤N:=by omega
 have MO:=I hN;clear x9 fR hN;go_enter Tryz.func225,Tryz.ntmps225;go_wp2_with fail
 go_loopw [10,11] (fun i j wr=>∃A U V B:List β,i = .int .i64 U.length∧j = .int .i64 V.length∧0 < U.length∧0 < V.length∧Hid (v++u = A++(V++(U++B)))∧Hid (p.length+A.length+U.length = mm)∧jJ (fun x=>[Value.string (nm x)]) 1 W0 wr b o (p++(A++(U++(V++(B++q)))))) (fun i j _=>(intOf i).toNat+(intOf j).toNat)
 case atStart =>exact Kx
 case round =>
  obtain ⟨A,U,V,B,rfl,rfl,hU,hV,hE,hP,hS⟩:=hrel;have er:A.length+U.length+V.length+B.length = u.length+v.length:=by have:=congrArg List.length hE.out;simp only [List.length_append] at this;omega
  have mu:p.length+A.length+U.length = mm:=hP.out;have hUm:U.length≤mm:=by omega
  have bE:mm+V.length≤N:=by have e1:=ha.out;have e2:=HM.out;omega
  have ul:=I er;have qi:=I mu;have HS:=I hS;clear er mu hS;have wC:(p++(u++(v++q))).length = p.length+u.length+v.length+q.length:=by simp only [List.length_append];omega
  have Pk:=I wC;clear wC;rcases Nat.lt_trichotomy U.length V.length with ap | vm | nv
  ·have cA:((U.length:Int) != V.length) = true:=(by simp;omega);go_wp2_with fail
   obtain ⟨V1,V2,rfl,hV2⟩:∃V1 V2,V = V1++V2∧V2.length = U.length:=⟨V.take (V.length - U.length),V.drop (V.length - U.length),(List.take_append_drop ..).symm,by rw [List.length_drop];omega⟩;have mu:=qi.out;have er:=ul.out;have hl:(V1++V2).length = V1.length+V2.length:=List.length_append ..;rw [show (mm:Int) - U.length = ((p.length+A.length:Nat):Int) by omega,show (mm:Int)+(V1++V2).length - U.length = ((mm+V1.length:Nat):Int) by omega];refine (TW nm W0 wr b o c N (p++A) U V1 V2 (B++q) (p.length+A.length) (mm+V1.length) U.length f D5 ?_ BI (I S') (I rfl) (I hV2) (I ?_)).mono ?_
   ·exact vq
   ·simp only [List.length_append];omega
   exact JF
  ·have cA:((U.length:Int) != V.length) = false:=(by simp;omega);go_wp2_with fail
   have mu:=qi.out;have er:=ul.out;rw [show (mm:Int) - V.length = ((p.length+A.length:Nat):Int) by omega];refine (TW nm W0 wr b o c N (p++A) U [] V (B++q) (p.length+A.length) mm V.length f D5 ?_ BI (I S') (I vm) (I rfl) (I ?_)).mono ?_
   ·have:=MO.out;have:=Pk.out;simp only [List.length_append,List.length_nil] at *;omega
   ·simp only [List.length_append,List.length_nil];omega
   exact Jx
  ·have cA:((U.length:Int) != V.length) = true:=(by simp;omega);go_wp2_with fail
   obtain ⟨U1,U2,rfl,hU1⟩:∃U1 U2,U = U1++U2∧U1.length = V.length:=⟨U.take V.length,U.drop V.length,(List.take_append_drop ..).symm,by rw [List.length_take];omega⟩;have mu:=qi.out;have er:=ul.out;have hl:(U1++U2).length = U1.length+U2.length:=List.length_append ..;rw [show (mm:Int) - (U1++U2).length = ((p.length+A.length:Nat):Int) by omega];refine (TW nm W0 wr b o c N (p++A) U1 U2 V (B++q) (p.length+A.length) mm V.length f D5 ?_ BI (I S') (I hU1) (I rfl) (I ?_)).mono ?_
   ·exact vq
   ·simp only [List.length_append];omega
   exact Jp
end
end Go.Proofs.YtjahcnjmjahbaaaGreat
