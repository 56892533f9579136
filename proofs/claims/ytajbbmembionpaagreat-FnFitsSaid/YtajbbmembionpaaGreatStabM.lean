/- A table of rows in one block: elements are swapped in place. No condition. -/
import Derived.Test.YtajbbmembionpaaGreatDrawB
import Derived.Deep.RegionLaw
import Derived.Test.YtajbbmembionpaaGreatNeedOk
namespace Go.Proofs.YtajbbmembionpaaGreat
open Go.ChangeShapes Go.WideShapes Go.ChangeAt Go.RowKit
set_option linter.unusedVariables false
set_option linter.unusedSimpArgs false
set_option maxHeartbeats 8000000
set_option maxRecDepth 100000
section
variable {β:Type} {row:β→List Value} {S:Nat}
def pq (row:β→List Value) (S:Nat) (w:World) (b o:Nat) (D:List β):Prop:=∀k x,D[k]? = some x→∀j u,(row x)[j]? = some u→w.cell? ⟨b,o+k * S+j,none⟩ = some u
theorem pq.put {w:World} {b o:Nat} {D:List β} (h:pq row S w b o D) (hS:∀x,(row x).length = S) {i:Nat} (hi:i < D.length) (y:β):pq row S (w.setCells b (o+i * S) (row y)) b o (D.set i y):=by
 intro k x hk j u hj;have x4:j < S:=by rw [← hS x];exact (List.getElem?_eq_some_iff.1 hj).1
 have Zq:∀q,q < (row y).length→(w.cell? ⟨b,o+i * S+q,none⟩).isSome = true:=fun q hq=>by
  rw [hS] at hq;have hx:=h i D[i] (List.getElem?_eq_getElem hi) q ((row D[i])[q]'(by rw [hS];exact hq)) (List.getElem?_eq_getElem _);rw [hx];rfl
 by_cases hik:i = k
 ·subst hik;rw [List.getElem?_set_self hi] at hk;obtain rfl:=Option.some.inj hk;have:=World.cell?_setCells_in b (row y) (o+i * S) w Zq j (by rw [hS];exact x4);rw [this,← hj];exact (List.getElem?_eq_getElem _).symm
 ·rw [List.getElem?_set_ne hik] at hk;rw [World.cell?_setCells_out b _ _ _ _ (fun _ _=>?_)]
  ·exact h k x hk j u hj
  ·dsimp only;rw [hS];rcases Nat.lt_or_gt_of_ne hik with Z | Z
   ·right;have:(i+1) * S≤k * S:=Nat.mul_le_mul_right _ Z;rw [Nat.succ_mul] at this;omega
   ·left;have:(k+1) * S≤i * S:=Nat.mul_le_mul_right _ Z;rw [Nat.succ_mul] at this;omega
theorem pq.kv {w:World} {b o:Nat} {D:List β} (h:pq row S w b o D) {k:Nat} (hk:k < D.length) {j:Nat} {u:Value} (hj:(row D[k])[j]? = some u):w.cell? ⟨b,o+k * S+j,none⟩ = some u:=h k D[k] (List.getElem?_eq_getElem hk) j u hj
theorem pq.bm {w w':World} {b o:Nat} {D:List β} (h:pq row S w b o D) (hk:w'.heap[b]? = w.heap[b]?):pq row S w' b o D:=fun k x hx j u hj=>(World.cell?_of_block hk).trans (h k x hx j u hj)
theorem pq.ext {w w':World} {b o:Nat} {D:List β} (h:pq row S w b o D) (U:b < w.heap.size) (he:Below w.heap.size w w'):pq row S w' b o D:=h.bm (he.block b U)
structure jJ (row:β→List Value) (S:Nat) (w0 w:World) (b o:Nat) (D:List β):Prop where
 Sg:pq row S w b o D
 plain:ey w b
 bS:nN [b] w0 w
theorem jJ.ext {w0 w w':World} {b o:Nat} {D:List β} (h:jJ row S w0 w b o D) (he:Below w.heap.size w w'):jJ row S w0 w' b o D :=
 ⟨h.Sg.ext h.plain.lt he,by obtain ⟨ds,t,hp⟩:=h.plain;exact ⟨ds,t,(he.block b h.plain.lt).trans hp⟩,h.bS.trans (nN.lq _ he)⟩
theorem jJ.put {w0 w:World} {b o:Nat} {D:List β} (h:jJ row S w0 w b o D) (hS:∀x,(row x).length = S) {i:Nat} (hi:i < D.length) (y:β):jJ row S w0 (w.setCells b (o+i * S) (row y)) b o (D.set i y):=by
 refine ⟨h.Sg.put hS hi y,EK b _ _ _ h.plain,?_⟩;have e:=F8 b (row y) (o+i * S) w;exact h.bS.trans ⟨e.1,e.2.1,e.2.2,by rw [fY];exact Nat.le_refl _,fun k _ hk=>vV b KW _ _ _⟩
end
def kS {β:Type} (cv:β→β→Int) (x y:β):Bool:=decide (cv x y < 0)
section
variable {β:Type} {lt:β→β→Bool}
theorem pZ.kv {l:List β} (h:pZ lt l) {t u:Nat} (Zr:t < u) (hu:u < l.length):lt l[u] (l[t]'J) = false :=
 List.pairwise_iff_getElem.1 h t u J hu Zr
end
structure Eb where
 name:ByteArray
 la:Option Addr
 ln:Nat
 lc:Nat
 az:Int
 mem:Int
 aw:Int
 na:Option Addr
 nn:Nat
 nc:Nat
 ta:Option Addr
 tn:Nat
 tc:Nat
 on:ByteArray
 seq:Int
def tH (x:Eb):List Value:=[.string x.name,.slice x.la x.ln x.lc,.int .i64 x.az,.int .i64 x.mem,.int .i64 x.aw,.slice x.na x.nn x.nc,.slice x.ta x.tn x.tc,.string x.on,.int .i64 x.seq]
section
end
abbrev zm:=ByteArray × Int × Int
def UP (a b:zm):List Int:=[Lib.compareInt b.2.1 a.2.1,Lib.compareInt a.2.2 b.2.2]
def o8 (a b:zm):Int:=Qa (UP a b)
def Hv (p:ag):zm:=(p.aS.name,p.aS.aw,p.seq)
def ix (ps:List ag):List zm:=(ps.filter fun p=>p.on.toList == []).map Hv
def GI (ps:List ag):List ByteArray:=(bz (kS o8) [] (ix ps)).map fun k=>k.1
theorem alD (a b:zm):kS o8 a b = true↔b.2.1 < a.2.1∨(a.2.1 = b.2.1∧a.2.2 < b.2.2):=by
 unfold kS o8 UP Qa Qa;rw [decide_eq_true_eq];unfold Lib.compareInt;by_cases Z:b.2.1 < a.2.1
 ·simp [Z]
 ·by_cases h2:a.2.1 < b.2.1
  ·simp [Z,h2];omega
  ·have h3:a.2.1 = b.2.1:=J;simp [h3,Qa];by_cases h4:a.2.2 < b.2.2
   ·simp [h4]
   ·by_cases h5:b.2.2 < a.2.2
    ·simp [h4,h5]
    ·simp [h4,h5]
theorem anD {ps:List ag} {k:Nat} (h:k < ps.length) (hp:(ps[k].on.toList == []) = true):ix (ps.take (k+1)) = ix (ps.take k)++[Hv ps[k]]:=by
 have e:List.filter (fun p:ag=>p.on.toList == []) [ps[k]] = [ps[k]]:=List.filter_eq_self.2 fun a ha=>by rw [List.mem_singleton.1 ha];exact hp
 unfold ix;rw [List.take_succ_eq_append_getElem h,List.filter_append,List.map_append,e];rfl
theorem apO {ps:List ag} {k:Nat} (h:k < ps.length) (hp:(ps[k].on.toList == []) = false):ix (ps.take (k+1)) = ix (ps.take k):=by
 have e:List.filter (fun p:ag=>p.on.toList == []) [ps[k]] = []:=List.filter_eq_nil_iff.2 fun a ha=>by rw [List.mem_singleton.1 ha,hp];simp
 unfold ix;rw [List.take_succ_eq_append_getElem h,List.filter_append,List.map_append,e];simp
theorem anF (ps:List ag):(ix ps).length≤ps.length:=by unfold ix;rw [List.length_map];exact List.length_filter_le _ _
theorem ap3 (ps:List ag):(GI ps).length≤ps.length:=by unfold GI;rw [List.length_map,rD];have:=anF ps;simp;omega
theorem Lb (xs:List aL) (A:Option Addr) (c:Nat) (F:List Nat) (w:World) (h:Sl w xs A c F) (hl:(xs.length:Int)≤1048576) (hv:∀x∈xs,(x.values.length:Int)≤1048576) :
 Calls Tryz.prog 35 #[.slice A xs.length c] w fun e w'=>∃v ds F',e = .returned v∧w'.ownsRow w.heap.size 70 3 v xs.length ds∧aY w' w.heap.size xs ds F'∧(∀g,v.ownBlock = some g→g∉F')∧Below w.heap.size w w':=by
 have HV:=I hv;clear hv;go_enter Tryz.func35,Tryz.ntmps35;go_wp2_with fail
 go_loopw [3,4] (fun v i wr=>∃(k:Nat) (ds:List Value) (F':List Nat),k≤xs.length∧i = .int .i64 k∧wr.ownsRow w.heap.size 70 3 v k ds∧aY wr w.heap.size (xs.take k) ds F'∧(∀g,v.ownBlock = some g→g∉F')∧Below w.heap.size w wr) (fun _ i _=>xs.length - (intOf i).toNat)
 case atStart=>exact ⟨0,[],[],Nat.zero_le _,rfl,World.ownsRow_made (size:=3) w #[] 0 (Nat.le_refl _) (Nat.zero_le _) S',aY.nil _ _,(fun g _ hm=>by cases hm),ak (aj _) _⟩
 case round =>
  obtain ⟨k,ds,F',hk,rfl,bi,hO,bX,aK⟩:=hrel;by_cases av:k < xs.length
  ·obtain ⟨b,o,ck,Fk,rfl,o9,hbs,hr,nJ,hc⟩:=(h.ext aK).get av;obtain ⟨pX,pY,KG,aD,hF1,xO,mO,wO⟩:=og hr;subst aD;clear hF1 hr;obtain ⟨q0,q1,q2⟩:=pp 3 hc;clear hc;have hvl:=HV.out xs[k] (List.getElem_mem av);obtain ⟨Av,cv,gm⟩:=mY bi;subst gm;have HO:=I bi;have HN:=I bX;have AT:=I aK;have Y6:=I hO.lt;clear bi bX aK;have FR:=oG.new wr [.string xs[k].key,.int .i64 xs[k].op,.slice pX xs[k].values.length pY] 70
   have HM:=I (show ((wr.alloc (.cells ([.string xs[k].key,.int .i64 xs[k].op,.slice pX xs[k].values.length pY]:List Value).toArray 70)).alloc (.cells #[] 9)).ownsRow (wr.heap.size+1) 9 1 (.slice (some ⟨wr.heap.size+1,0,none⟩) 0 0) 0 [] from by
    have:=World.ownsRow_made (base:=wr.heap.size+1) (e:=9) (size:=1) (wr.alloc (.cells ([.string xs[k].key,.int .i64 xs[k].op,.slice pX xs[k].values.length pY]:List Value).toArray 70)) #[] 0 S' (Nat.zero_le _) S';rw [World.size_alloc] at this
    exact this)
   go_wp2_with (first
    | (at_builtin
       refine rW (o:=⟨some 20,_,_,_,_,_⟩) Ud M M _ _ M _ (wr.heap.size+1) _ 0 [] HM.out M xs[k].values pX pY _ (wO.ext (ak (ak (aj _) _) _)) M J J S' ?_;intro v2 w2 Ny G dz bA dB hg dt;go_must (obtain ⟨A2,c2,gj⟩:=mY dB)
       go_must (subst gj)
       go_must (simp only [Nat.zero_add,List.nil_append] at dB)
       go_must (have aq:Below wr.heap.size wr w2:=lS (vP HM.out (Nat.le_succ _)) hg (ak (ak (aj _) _) _) (by simp;omega))
       go_must (have yr:oG w2 wr.heap.size [.string xs[k].key,.int .i64 xs[k].op,.slice pX xs[k].values.length pY]:=FR.bm ((hg.block _ (by simp;omega) MG).trans (heap_alloc_old _ _ S')))
       go_must (have pl:jo w2 xs[k].values Ny G:=dz.frame (fun b U=>hg.block b (dz.lt b U) (fun e=>by have:=(wO.lt b (bA b U));simp [Value.ownBlock] at e;omega)) hg.size)
       go_must (obtain ⟨A3,c3,G3,kk,bM⟩:=am.de P8 dB pl)
       go_must (simp only [Value.slice.injEq,true_and] at kk)
       go_must (obtain ⟨rfl,rfl⟩:=kk)
       go_must (have k0:=yr.cell (i:=0) (u:=.string xs[k].key) rfl)
       go_must (have k1:=yr.cell (i:=1) (u:=.int .i64 xs[k].op) rfl)
       go_must (have k2:=yr.cell (i:=2) (u:=.slice pX xs[k].values.length pY) rfl)
       go_must (have kl:=yr.lt)
       go_must (have kf:=yr.fz 2)
       go_must (have nA:am w2 (wr.heap.size+1) xs[k] [.string xs[k].key,.int .i64 xs[k].op,.slice A2 xs[k].values.length c2] G3:=am.up (B':=wr.heap.size+1) (fun x:aL=>(x.key,x.op,x.values)) (am.cons (c1:=[.string xs[k].key]) (ed _ _ (rV xO)) (am.cons (c1:=[.int .i64 xs[k].op]) (jL _ _ mO) bM)) (Nat.le_refl _))
       go_must (have Lc:=nA.setCell (p:=⟨wr.heap.size,2,none⟩) (Nat.lt_succ_self _) (.slice A2 xs[k].values.length c2))
       go_must (have bk:(w2.setCell ⟨wr.heap.size,2,none⟩ (.slice A2 xs[k].values.length c2)).ownsRow w.heap.size 70 3 (.slice Av k cv) k ds:=EJ (mG HO.out aq) (fun g hg=>by have:=(HO.out.lt g hg).2;omega))
       go_must (have cA:aY (w2.setCell ⟨wr.heap.size,2,none⟩ (.slice A2 xs[k].values.length c2)) w.heap.size (xs.take k) ds F':=(hO.ext aq).bm (fun y hy=>Below.heap_setCell _ _ _ _ (by have:=hO.lt y hy;dsimp only;omega)) ew)
       go_must (have Nz:Below wr.heap.size wr (w2.setCell ⟨wr.heap.size,2,none⟩ (.slice A2 xs[k].values.length c2)):=aC aq (Nat.le_refl _) _)
       go_must (have ba:=yr.put 2 (.slice A2 xs[k].values.length c2))
       go_must (have HOS:=I Lc)
       go_must (have HR:=I bk)
       go_must (have HC:=I cA)
       go_must (have HBS:=I Nz)
       go_must (have Ld:=Nz.size)
       go_must (clear nA bM dz pl dB hO FR yr hg dt aq Lc cA Nz))
    | (at_builtin
       refine uf (o:=⟨some 25,_,_,_,_,_⟩) apf M _ _ M _ _ _ _ _ bk M [.string xs[k].key,.int .i64 xs[k].op,.slice A2 xs[k].values.length c2] iN M et J J (by have:=AT.out.size;omega) ?_
       intro v4 w4 da gF Wy j8))
   have aK:=AT.out;obtain ⟨l5,hne4⟩:=aY.pr (v':=v4) HR.out HC.out HN.out HOS.out (by have:=aK.size;omega) (fun g hg=>by have:=(HO.out.lt g hg).2;omega) (fun y hy=>by have:=Y6.out y hy;omega) gF j8;rw [← List.take_succ_eq_append_getElem av] at l5;exact ⟨⟨k+1,_,_,J,N',da,l5,hne4,lS (vP HR.out (Nat.le_refl _)) gF (ah aK HBS.out) (by have:=aK.size;omega)⟩,by simp [intOf];omega⟩
  ·have bI:k = xs.length:=J;subst bI;rw [List.take_length] at hO;obtain ⟨Ah,ch,hvh⟩:=mY bi;subst hvh;have HO:=I bi;clear bi;go_wp2;go_ret
   exact ⟨_,ds,F',rfl,HO.out,hO,bX,aK⟩
theorem Lf (xs:List aL) (A:Option Addr) (c:Nat) (F:List Nat) (w:World) (h:Sl w xs A c F) (hl:(xs.length:Int)≤1048576) (hv:∀x∈xs,(x.values.length:Int)≤1048576) :
 Calls Tryz.prog 35 #[.slice A xs.length c] w fun e w'=>∃A' c' F',e = .returned (.slice A' xs.length c')∧am w' w.heap.size xs [.slice A' xs.length c'] F'∧Below w.heap.size w w' :=
 (Lb xs A c F w h hl hv).mono fun e w' ⟨v,ds,F',he,bi,hO,bX,U⟩=>by
  obtain ⟨Ah,ch,Gh,rfl,Xp⟩:=am.oJ bi hO bX;exact ⟨_,_,_,he,Xp,U⟩
theorem aEt (D:List ByteArray) {w:World} {B e g ar:Nat} (h:w.ownsRow B e 1 (.slice (some ⟨g,0,none⟩) D.length ar) D.length (D.map Value.string)) (hr:∀x∈D,rd w x [.string x] []):∃A c G,Value.slice (some ⟨g,0,none⟩) D.length ar = .slice A D.length c∧am w B D [.slice A D.length c] G:=by
 have dz:∀D:List ByteArray,(∀x∈D,rd w x [.string x] [])→jo w D (D.map Value.string) []:=fun D=>by
  induction D with
  | nil=>intro _;exact ⟨rfl,rfl⟩
  | cons x D ih=>intro hD;exact ⟨[.string x],D.map Value.string,[],[],rfl,rfl,hD x (List.mem_cons_self ..),ih fun y hy=>hD y (List.mem_cons_of_mem _ hy)⟩
 exact Ex
theorem Ty (xs:List ByteArray) (A:Option Addr) (c:Nat) (F:List Nat) (w:World) (h:Sl w xs A c F) (hl:(xs.length:Int)≤1048576) :
 Calls Tryz.prog 76 #[.slice A xs.length c] w fun e w'=>∃A' c' G,e = .returned (.slice A' (ga xs).length c')∧am w' w.heap.size (ga xs) [.slice A' (ga xs).length c'] G∧Below w.heap.size w w'∧eE w' w.heap.size 9 1 A' c':=by
 have pH:=I (show ∀x∈xs,∀w':World,rd w' x [.string x] [] from fun x hx w'=>by
  obtain ⟨k,hk,rfl⟩:=List.getElem_of_mem hx;obtain ⟨b,o,ck,Fk,_,_,_,hr,_,_⟩:=h.get hk;obtain ⟨Z,h2,h3⟩:=hr
  exact ⟨rfl,rfl,h3⟩)
 go_enter Tryz.func76,Tryz.ntmps76;go_wp2_with fail
 go_loopw [3,4] (fun v i wr=>∃k N g ar:Nat,k≤xs.length∧N≤k∧i = .int .i64 (k:Int)∧v = .slice (some ⟨g,0,none⟩) N ar∧Hid ((ga (xs.take k)).length = N)∧wr.ownsRow w.heap.size 9 1 (.slice (some ⟨g,0,none⟩) N ar) N ((ga (xs.take k)).map Value.string)∧Below w.heap.size w wr) (fun _ i _=>xs.length - (intOf i).toNat)
 case atStart=>exact ⟨0,0,w.heap.size,0,J,Nat.le_refl _,rfl,rfl,I rfl,D9 w 9 1 w.heap.size rfl,ak (aj _) _⟩
 case round =>
  obtain ⟨k,N,g,ar,hk,hNk,rfl,rfl,dr,bk,aK⟩:=hrel;by_cases av:k < xs.length
  ·obtain ⟨wo,hwo⟩:∃wo,wo = wr:=⟨_,rfl⟩;subst hwo;obtain ⟨b,o,ck,Fk,hA,hbG,hbs,aJe,_,hcells⟩:=Sl.get h av;subst hA;have fq:ga (xs.take (k+1)) = eB blt xs[k] (ga (xs.take k)):=(by unfold ga;rw [List.take_succ_eq_append_getElem av,BU]);obtain ⟨y,hy⟩:∃y,xs[k] = y:=⟨_,rfl⟩;rw [hy] at aJe fq;obtain ⟨aD,_,_⟩:=aJe;subst aD;have k0:wo.cell? ⟨b,o+k,none⟩ = some (.string y):=r' aK (by have:=hcells 0 _ rfl;simpa [show bb.size ByteArray = 1 from rfl] using this) hbs;have Jf:=I fq;clear hcells hy fq;generalize ga (xs.take k) = SS at *;obtain ⟨pu,fe,nW,hgc⟩:=IE bk;have Lg:w.heap.size≤wo.heap.size:=aK.size;have eR:b < wo.heap.size:=J;have kO:=I hgc;have gY:=I bk;have eW:=I aK;clear hgc bk aK;go_wp2_with fail
   go_loopw [5] (fun j wr=>∃(s1 s2:List ByteArray) (jj:Nat),Hid (SS = s1++s2)∧j = .int .i64 (jj:Int)∧Hid (s1.length = jj)∧Hid (∀z∈s1,blt z y = true)∧Below wo.heap.size wo wr) (fun j _=>N - (intOf j).toNat)
   case atStart=>exact ⟨[],SS,0,I rfl,rfl,I rfl,I (fun z hz=>by cases hz),aj _⟩
   case round =>
    obtain ⟨s1,s2,jj,HE,rfl,HJ,HN,bN⟩:=hrel;have mc:∀bq oq u,wo.cell? ⟨bq,oq,none⟩ = some u→bq < wo.heap.size→wr.cell? ⟨bq,oq,none⟩ = some u:=fun bq oq u Z h2=>(bN.cell (p:=⟨bq,oq,none⟩) h2).trans Z;replace k0:=mc _ _ _ k0 eR;have MC:=I mc;have lz:wo.heap.size≤wr.heap.size:=bN.size;have mK:b < wr.heap.size:=J;have lv:g < wr.heap.size:=J;clear mc;cases s2 with
    | nil =>
      have fV:jj = N:=(by have e1:=HE.out;have e2:=dr.out;have e3:=HJ.out;rw [e1,List.append_nil] at e2;omega);have oV:N≤jj:=J;have oW:decide ((jj:Int) < (N:Int)) = false:=(by simp;omega);have oX:decide (jj < N) = false:=(by simp;omega);clear fV;have HI:=I (show eB blt y (SS) = s1++y :: [] by rw [HE.out];exact Kf s1 HN.out);go_wp2_with fail
      refine aF wr U' U' (aj _) ?_
      repeat ((first | refine aG M ?_ | refine aH _ M d8 ?_);simp only [Act.put,pz])
      refine aN ?_;intro wm X;replace X:=X.out;have gw:Below wo.heap.size wo wm:=ah bN X;have ip:g < wm.heap.size:=(by have:=X.size;omega);have ir:b < wm.heap.size:=(by have:=X.size;omega);replace k0:=r' X k0 eu;clear bN X;obtain ⟨bN,mK,lv⟩:Below wo.heap.size wo wm∧b < wm.heap.size∧g < wm.heap.size:=⟨gw,ir,ip⟩;clear gw ir ip;go_wp2_with fail
      refine aF wm U' U' (aj _) ?_
      repeat ((first | refine aG M ?_ | refine aH _ M d8 ?_);simp only [Act.put,pz])
      refine aN ?_;intro wn X;replace X:=X.out;have bx:Below wo.heap.size wo wn:=ah bN X;have lp:=I (show Below w.heap.size w wn from ah eW.out bx);have RJ:=mG gY.out bx;obtain ⟨_,eZ,apy,V4⟩:=IE RJ
      have ev:=I (show ∀q u,((s1).map Value.string)[q]? = some u→wn.cell? ((⟨g,0,none⟩:Addr).add q) = some u from fun q u hu=>by
       rw [Addr.add_lit,Nat.zero_add];refine V4 q u ?_
       rw [HE.out,List.map_append,List.getElem?_append_left (List.getElem?_eq_some_iff.1 hu).1];exact hu)
      have Gn:=I (show ∀q u,((([]:List ByteArray)).map Value.string)[q]? = some u→wn.cell? ⟨g,jj+q,none⟩ = some u from fun q u hu=>by
       refine V4 (jj+q) u ?_
       rw [HE.out,List.map_append,List.getElem?_append_right yf,List.length_map,HJ.out,Nat.add_sub_cancel_left];exact hu)
      have dv:jj+(([]:List ByteArray)).length = N:=(by have e1:=congrArg List.length HE.out;have e2:=dr.out;have e3:=HJ.out;rw [List.length_append] at e1;omega);have nz:jj≤N:=J;have nZ:jj≤ar:=J;replace k0:=r' X k0 eu;have mv:b < wn.heap.size:=(by have:=X.size;omega);have gU:=I dv;have ia:=I bx;clear RJ V4 dv bx;go_wp2_with fail
      refine zU wn 12 U' U' (aj _) ?_;refine YU (fun a0 a' w'=>∃(g9 p9:Nat) (df dg dh di dj dk dl dC ez eA:Value),a' = (Act.put (Act.put (Act.put (Act.put (Act.put (Act.put (Act.put (Act.put (Act.put (Act.put (Act.put (Act.put a0 (some 46) (df)) (some 47) (dg)) (some 48) (dh)) (some 49) (di)) (some 50) (dj)) (some 51) (dk)) (some 52) (dl)) (some 53) (dC)) (some 54) (ez)) (some 55) (eA)) (some 56) (.slice (some ⟨g9,0,none⟩) (jj+1) p9)) (some 6) (.slice (some ⟨g9,0,none⟩) (jj+1) p9))∧Below wn.heap.size wn w'∧World.ownsRow w' wn.heap.size 9 1 (.slice (some ⟨g9,0,none⟩) (jj+1) p9) (jj+1) (((s1).map Value.string)++[.string y])) ?_ ?_;rotate_left
      ·exact EG
      intro a' w7 fj;obtain ⟨g9,p9,df,dg,dh,di,dj,dk,dl,dC,ez,eA,rfl,bF,nK⟩:=fj;try simp only [Act.put,pz]
      have cL:∃A0:Addr,(if ar = jj then some (⟨g,0,none⟩:Addr) else some ⟨g,jj,none⟩) = some A0∧Hid (A0.block = g∧∀q u,((([]:List ByteArray)).map Value.string)[q]? = some u→w7.cell? (A0.add q) = some u):=by exact Fe
      obtain ⟨A0,hA0,asg⟩:=cL;have bI:N - jj = (([]:List ByteArray)).length:=(by have:=gU.out;omega);have mn:=I bI;clear bI
      go_wp2_with (
       at_builtin
       go_must (refine xW qw M _ _ M w7 wn.heap.size _ _ _ nK M A0 0 (ar - jj) ((([]:List ByteArray)).map Value.string) M M asg.out.2 (fun u hu=>by obtain ⟨z0,_,rfl⟩:=List.mem_map.1 hu;rfl) J J kB ?_)
       intro v8 w8 Le cU jA;rw [show jj+1+0 = N+1 by omega] at Le;obtain ⟨g8,p8,hv8,aJs,aJt,aJu⟩:=wW Le J
       subst hv8)
      exact ET
    | cons z s2 =>
      have fV:jj < N:=(by have e1:=congrArg List.length HE.out;have e2:=dr.out;have e3:=HJ.out;rw [List.length_append,List.length_cons] at e1;omega);have z0:wr.cell? ⟨g,jj,none⟩ = some (.string z):=MC.out _ _ _ (kO.out jj _ MP) fe;have oW:decide ((jj:Int) < (N:Int)) = true:=(by simp;omega);cases hL:Op.bytesLess z.toList y.toList with
      | true =>have HL:=I (show blt z y = true from hL);exact EN
      | false =>
        have HL:=I (show blt z y = false from hL);go_wp2_with fail
        refine aF wr U' U' (aj _) ?_
        repeat ((first | refine aG M ?_ | refine aH _ M d8 ?_);simp only [Act.put,pz])
        refine aN ?_;intro wm X;replace X:=X.out;have gw:Below wo.heap.size wo wm:=ah bN X;have ip:g < wm.heap.size:=(by have:=X.size;omega);have ir:b < wm.heap.size:=(by have:=X.size;omega);replace k0:=r' X k0 eu;replace z0:=r' X z0 pN;clear bN X;obtain ⟨bN,mK,lv⟩:Below wo.heap.size wo wm∧b < wm.heap.size∧g < wm.heap.size:=⟨gw,ir,ip⟩;clear gw ir ip;clear hL;cases hE:(z.toList == y.toList) with
        | true =>
          have HI:=I (show eB blt y (SS) = SS by rw [HE.out];exact Kh s1 s2 HN.out HL.out (by rw [Ce hE];exact tv.ua y));go_wp2_with fail
          refine aF wm U' U' (aj _) ?_
          repeat ((first | refine aG M ?_ | refine aH _ M d8 ?_);simp only [Act.put,pz])
          refine aN ?_;intro wn X;replace X:=X.out;exact DM
        | false =>
          have HG:=I (show blt y z = true by
           cases hh:blt y z with
           | true=>rfl
           | false=>have:=tv.Kd z y HL.out hh;rw [this] at hE;simp at hE)
          have HI:=I (show eB blt y (SS) = s1++y :: (z :: s2) by rw [HE.out];exact Kg s1 s2 HN.out HL.out HG.out);go_wp2_with fail
          refine aF wm U' U' (aj _) ?_
          repeat ((first | refine aG M ?_ | refine aH _ M d8 ?_);simp only [Act.put,pz])
          refine aN ?_;intro wn X;replace X:=X.out;clear hE;have bx:Below wo.heap.size wo wn:=ah bN X;have lp:=I (show Below w.heap.size w wn from ah eW.out bx);have RJ:=mG gY.out bx;obtain ⟨_,eZ,apy,V4⟩:=IE RJ
          have ev:=I (show ∀q u,((s1).map Value.string)[q]? = some u→wn.cell? ((⟨g,0,none⟩:Addr).add q) = some u from fun q u hu=>by
           rw [Addr.add_lit,Nat.zero_add];refine V4 q u ?_
           rw [HE.out,List.map_append,List.getElem?_append_left (List.getElem?_eq_some_iff.1 hu).1];exact hu)
          have Gn:=I (show ∀q u,((z :: s2).map Value.string)[q]? = some u→wn.cell? ⟨g,jj+q,none⟩ = some u from fun q u hu=>by
           refine V4 (jj+q) u ?_
           rw [HE.out,List.map_append,List.getElem?_append_right yf,List.length_map,HJ.out,Nat.add_sub_cancel_left];exact hu)
          have dv:jj+(z :: s2).length = N:=(by have e1:=congrArg List.length HE.out;have e2:=dr.out;have e3:=HJ.out;rw [List.length_append] at e1;omega);have nz:jj≤N:=J;have nZ:jj≤ar:=J;have yK:¬ar = jj:=J;replace k0:=r' X k0 eu;have mv:b < wn.heap.size:=(by have:=X.size;omega);have gU:=I dv;have ia:=I bx;clear RJ V4 dv bx;go_wp2_with fail
          refine zU wn 12 U' U' (aj _) ?_;refine YU (fun a0 a' w'=>∃(g9 p9:Nat) (df dg dh di dj dk dl dC ez eA:Value),a' = (Act.put (Act.put (Act.put (Act.put (Act.put (Act.put (Act.put (Act.put (Act.put (Act.put (Act.put (Act.put a0 (some 46) (df)) (some 47) (dg)) (some 48) (dh)) (some 49) (di)) (some 50) (dj)) (some 51) (dk)) (some 52) (dl)) (some 53) (dC)) (some 54) (ez)) (some 55) (eA)) (some 56) (.slice (some ⟨g9,0,none⟩) (jj+1) p9)) (some 6) (.slice (some ⟨g9,0,none⟩) (jj+1) p9))∧Below wn.heap.size wn w'∧World.ownsRow w' wn.heap.size 9 1 (.slice (some ⟨g9,0,none⟩) (jj+1) p9) (jj+1) (((s1).map Value.string)++[.string y])) ?_ ?_;rotate_left
          ·exact EG
          intro a' w7 fj;obtain ⟨g9,p9,df,dg,dh,di,dj,dk,dl,dC,ez,eA,rfl,bF,nK⟩:=fj;try simp only [Act.put,pz]
          have bI:N - jj = (z :: s2).length:=(by have:=gU.out;omega);have mn:=I bI;clear bI
          go_wp2_with (
           at_builtin
           go_must (refine xW qw M _ _ M w7 wn.heap.size _ _ _ nK M ⟨g,jj,none⟩ (N - jj) (ar - jj) ((z :: s2).map Value.string) M KV (fun q u hu=>by rw [Addr.add_lit];exact (bF.cell (p:=⟨g,jj+q,none⟩) eZ).trans (Gn.out q u hu)) (fun u hu=>by obtain ⟨z0,_,rfl⟩:=List.mem_map.1 hu;rfl) J J kB ?_)
           intro v8 w8 Le cU jA;rw [show jj+1+(N - jj) = N+1 by omega] at Le;obtain ⟨g8,p8,hv8,aJs,aJt,aJu⟩:=wW Le J
           subst hv8)
          exact ET
  ·have bI:k = xs.length:=J;subst bI;rw [List.take_length] at bk dr;rw [← dr.out] at bk;obtain ⟨A4,c4,G4,hv4,hO4⟩:=aEt (ga xs) bk (fun x hx=>pH.out x (Tr hx) wr);rw [dr.out] at hv4;simp only [Value.slice.injEq,true_and] at hv4;obtain ⟨qk,fa⟩:=hv4;subst qk fa;have kz:=I hO4;have lr:=I (eE.oJ bk (Nat.le_refl _));clear bk hO4;go_wp2;go_ret
   exact ⟨some ⟨g,0,none⟩,ar,G4,by rw [dr.out];try rfl,kz.out,aK,lr.out⟩
theorem aAw (xs:List ByteArray) (A:Option Addr) (c:Nat) (F:List Nat) (w:World) (h:Sl w xs A c F) (hl:(xs.length:Int)≤1048576) :
 Calls Tryz.prog 76 #[.slice A xs.length c] w fun e w'=>∃A' c' G,e = .returned (.slice A' (ga xs).length c')∧am w' w.heap.size (ga xs) [.slice A' (ga xs).length c'] G∧Below w.heap.size w w' :=
 (Ty xs A c F w h hl).mono fun _ _ ⟨A',c',G,a,b,d,_⟩=>⟨A',c',G,a,b,d⟩
end Go.Proofs.YtajbbmembionpaaGreat
