/- Tolerates, of the program and of the reference. No condition. -/
import Derived.Test.YtajbbmembionpaaGreatAt
import Derived.Test.YtajbbmembionpaaGreatNeedOk
namespace Go.Proofs.YtajbbmembionpaaGreat
open Go.ChangeShapes Go.WideShapes Go.ChangeAt Go.RowKit
set_option linter.unusedVariables false
set_option linter.unusedSimpArgs false
set_option maxHeartbeats 2000000
set_option maxRecDepth 100000
theorem ahM (x:bH) (y:iU) (cs ds:List Value) (F G:List Nat) (w:World) (h:rd w x cs F) (h':rd w y ds G) (eV:(x.key.size:Int)≤1048576) (nZ:(x.value.size:Int)≤1048576) (tR:(y.key.size:Int)≤1048576) (kC:(y.value.size:Int)≤1048576) :
 Calls Tryz.prog 89 #[.agg cs.toArray,.agg ds.toArray] w fun e w'=>e = .returned (.bool (AY x y))∧Below w.heap.size w w':=by
 obtain ⟨aw,hF1,xO,xk,zT⟩:=jv h;obtain ⟨jU,oX,vC,rP,uY⟩:=oK h';subst aw jU;subst hF1 oX;go_enter Tryz.func89,Tryz.ntmps89
 go_wp2_with (first
  | (go_at_call 136;refine (Na x _ [] _ (aJ h bx) eV nZ).mono ?_;rintro e w2 ⟨rfl,ap⟩;obtain ⟨bX,cG⟩:=ay ap;have cj:w.heap.size+1 < w2.heap.size:=(sq ap.size);have kn:w.heap.size < w2.heap.size:=J)
  | (go_at_call 137;refine (V9 y _ [] _ (aJ h' bx) tR kC).mono ?_;rintro e w3 ⟨rfl,aR⟩;obtain ⟨dk,hf3⟩:=ay aR;have cW:w.heap.size+1 < w3.heap.size:=(sq aR.size);have uc:w.heap.size < w3.heap.size:=J))
 all_goals first
  | (go_ret;refine ⟨?_,bx⟩;refine congrArg (fun b=>Ending.returned (Value.bool b)) ?_;show (_:Bool) = _;(try clear bX cG ap);(try clear dk hf3 aR);unfold AY;(try simp only [Kz]);first | (simp [*];done) | (simp_all;done) | (simp_all;omega) | (simp_all;exact Bool.or_comm _ _))
  | skip
theorem ahN (x:bH) (y:iU) (cs ds:List Value) (F G:List Nat) (w:World) (h:rd w x cs F) (h':rd w y ds G) (eV:(x.key.size:Int)≤1048576) (nZ:(x.value.size:Int)≤1048576) (tR:(y.key.size:Int)≤1048576) (kC:(y.value.size:Int)≤1048576) :
 Calls Tryz.prog 154 #[.agg cs.toArray,.agg ds.toArray] w fun e w'=>e = .returned (.bool (AY x y))∧Below w.heap.size w w':=by
 obtain ⟨aw,hF1,xO,xk,zT⟩:=jv h;obtain ⟨jU,oX,vC,rP,uY⟩:=oK h';subst aw jU;subst hF1 oX;go_enter Tryz.func154,Tryz.ntmps154
 go_wp2_with (first
  | (go_at_call 126;refine (Nb x _ [] _ (aJ h bx) eV nZ).mono ?_;rintro e w2 ⟨rfl,ap⟩;obtain ⟨bX,cG⟩:=ay ap;have cj:w.heap.size+1 < w2.heap.size:=(sq ap.size);have kn:w.heap.size < w2.heap.size:=J)
  | (go_at_call 138;refine (Wh y _ [] _ (aJ h' bx) tR kC).mono ?_;rintro e w3 ⟨rfl,aR⟩;obtain ⟨dk,hf3⟩:=ay aR;have cW:w.heap.size+1 < w3.heap.size:=(sq aR.size);have uc:w.heap.size < w3.heap.size:=J))
 all_goals first
  | (go_ret;refine ⟨?_,bx⟩;refine congrArg (fun b=>Ending.returned (Value.bool b)) ?_;show (_:Bool) = _;(try clear bX cG ap);(try clear dk hf3 aR);unfold AY;(try simp only [Kz]);first | (simp [*];done) | (simp_all;done) | (simp_all;omega) | (simp_all;exact Bool.or_comm _ _))
  | skip
theorem XJ {α:Type} (p:α→Bool):∀xs:List α,xs.any p = decide (0≤pK p xs)
 | []=>rfl
 | x :: xs=>by
   have h:=XJ p xs;simp only [List.any_cons,pK,h];by_cases hp:p x = true
   ·simp [hp]
   ·exact Gq
def Ws (ts:List bH) (fv:Int) (x:iU):Bool:=(x.effect == fv)&&!(ts.any fun t=>AY t x)
def BD (ts:List bH) (fv:Int) (xs:List iU):Nat:=(xs.filter (Ws ts fv)).length
theorem XK {ts:List bH} {fv:Int} {xs:List iU} {k:Nat} (h:k < xs.length) (hp:Ws ts fv xs[k] = true):BD ts fv (xs.take (k+1)) = BD ts fv (xs.take k)+1:=by
 unfold BD;rw [List.take_succ_eq_append_getElem h,List.filter_append];simp [hp]
theorem Q1 {ts:List bH} {fv:Int} {xs:List iU} {k:Nat} (h:k < xs.length) (hp:Ws ts fv xs[k] = false):BD ts fv (xs.take (k+1)) = BD ts fv (xs.take k):=by
 unfold BD;rw [List.take_succ_eq_append_getElem h,List.filter_append];simp [hp]
theorem UN (ts:List bH) (fv:Int) (xs:List iU):BD ts fv xs≤xs.length:=List.length_filter_le _ _
theorem XM (ts:List bH) (fv:Int) (xs:List iU) (k:Nat):BD ts fv (xs.take k)≤k:=Nat.le_trans (UN _ _ _) OR
theorem XN (t:bH) (cs:List Value) (F:List Nat) (x:iU) (q:Nat) (w:World) (h:rd w t cs F) (tN:w.cell? ⟨q,0,none⟩ = some (.string x.key)) (et:w.cell? ⟨q,1,none⟩ = some (.string x.value)) (ni:w.cell? ⟨q,2,none⟩ = some (.int .i64 x.effect)) (hx:bp x.effect) (pq:q < w.heap.size)
 (eV:(t.key.size:Int)≤1048576) (nZ:(t.value.size:Int)≤1048576) (tR:(x.key.size:Int)≤1048576) (kC:(x.value.size:Int)≤1048576) :
 Calls Tryz.prog 88 #[.agg cs.toArray,.pointer (some ⟨q,0,none⟩)] w fun e w'=>e = .returned (.bool (AY t x))∧Below w.heap.size w w':=by
 obtain ⟨aw,hF,b8,kP,lD⟩:=jv h;subst aw;subst hF;go_enter Tryz.func88,Tryz.ntmps88;go_wp2_with fail
 refine (ahM t x _ _ [] [] _ (aJ h bx) (Q8 _ x lA lA hx) eV nZ tR kC).mono ?_;rintro e w2 ⟨rfl,ap⟩;go_wp2;go_ret
 exact ⟨rfl,bx⟩
theorem anA (ts:List bH) (A:Option Addr) (n c:Nat) (F:List Nat) (x:iU) (q:Nat) (w:World) (h:Sl w ts A c F) (hn:n = ts.length) (tN:w.cell? ⟨q,0,none⟩ = some (.string x.key)) (et:w.cell? ⟨q,1,none⟩ = some (.string x.value)) (ni:w.cell? ⟨q,2,none⟩ = some (.int .i64 x.effect)) (hx:bp x.effect) (pq:q < w.heap.size) (hl:(ts.length:Int)≤1048576)
 (cR:(∀t∈ts,(t.key.size:Int)≤1048576∧(t.value.size:Int)≤1048576)) (tR:(x.key.size:Int)≤1048576) (kC:(x.value.size:Int)≤1048576) :
 Calls Tryz.prog 135 #[.slice A n c,.func (.func 88) #[] #[.pointer (some ⟨q,0,none⟩)]] w fun e w'=>e = .returned (.int .i64 (pK (fun t=>AY t x) ts))∧Below w.heap.size w w':=by
 subst hn;have Eo:=I cR;clear cR;go_enter Tryz.func135,Tryz.ntmps135;go_wp2;go_loopw [5,8] (fun _ i wr=>∃k:Nat,k≤ts.length∧i = .int .i64 k∧Hid (∀t∈ts.take k,AY t x = false)∧Below w.heap.size w wr) (fun _ i _=>ts.length - (intOf i).toNat)
 case atStart=>exact ⟨0,Nat.zero_le _,rfl,by show ∀_,_;simp,aj _⟩
 case round =>
  obtain ⟨k,hk,rfl,Hn,ax⟩:=hrel;by_cases aq:k < ts.length
  ·obtain ⟨b,o,ck,Fk,rfl,o9,bc,hr,bv,hc⟩:=(h.ext ax).get aq;obtain ⟨aw,su,b8,kP,lD⟩:=jv hr;subst aw;obtain ⟨q0,q1,q2,q3⟩:=IA 4 hc;clear hc;have d7:=ax.cell (p:=⟨q,0,none⟩) pq;have dj:=ax.cell (p:=⟨q,1,none⟩) pq;have fR:=ax.cell (p:=⟨q,2,none⟩) pq;rw [tN] at d7;rw [et] at dj;rw [ni] at fR;have IP:q < wr.heap.size:=Nat.lt_of_lt_of_le pq ax.size;obtain ⟨cX,cM⟩:=Eo.out ts[k] (List.getElem_mem ..);cases hp:AY ts[k] x with
   | false =>
     have HP:=I hp;clear hp;go_wp2_with (go_at_call 88;refine (XN ts[k] _ _ x q _ hr d7 dj fR hx IP cX cM tR kC).mono ?_;rw [HP.out];rintro e w2 ⟨rfl,ap⟩)
     exact ⟨⟨k+1,J,N',yQ (p:=fun t=>AY t x) aq Hn.out HP.out,ah ax ap⟩,by simp [intOf];omega⟩
   | true =>
     have HP:=I hp;clear hp;have HI:=I (Fj (p:=fun t=>AY t x) aq Hn.out HP.out);go_wp2_with (go_at_call 88;refine (XN ts[k] _ _ x q _ hr d7 dj fR hx IP cX cM tR kC).mono ?_;rw [HP.out];rintro e w2 ⟨rfl,ap⟩)
     go_ret
     exact ⟨by rw [HI.out];rfl,ah ax ap⟩
  ·have bB:k = ts.length:=J;subst bB;have hn:=Hn.out;rw [List.take_length] at hn;have HI:=I (F5 (p:=fun t=>AY t x) hn);clear hn;go_wp2;go_ret
   exact ⟨by rw [HI.out];rfl,ax⟩
theorem ahS (ts:List bH) (A:Option Addr) (n c:Nat) (F:List Nat) (x:iU) (q:Nat) (w:World) (h:Sl w ts A c F) (hn:n = ts.length) (tN:w.cell? ⟨q,0,none⟩ = some (.string x.key)) (et:w.cell? ⟨q,1,none⟩ = some (.string x.value)) (ni:w.cell? ⟨q,2,none⟩ = some (.int .i64 x.effect)) (hx:bp x.effect) (pq:q < w.heap.size) (hl:(ts.length:Int)≤1048576)
 (cR:(∀t∈ts,(t.key.size:Int)≤1048576∧(t.value.size:Int)≤1048576)) (tR:(x.key.size:Int)≤1048576) (kC:(x.value.size:Int)≤1048576) :
 Calls Tryz.prog 87 #[.slice A n c,.func (.func 88) #[] #[.pointer (some ⟨q,0,none⟩)]] w fun e w'=>e = .returned (.bool (ts.any fun t=>AY t x))∧Below w.heap.size w w':=by
 subst hn;have so:=XJ (fun t=>AY t x) ts;have Eo:=I cR;clear cR;have Ke:=anA ts A _ c F x q w h rfl tN et ni hx pq hl Eo.out tR kC;generalize pK (fun t=>AY t x) ts = z at so Ke;rw [so];clear so Eo;go_enter Tryz.func87,Tryz.ntmps87;go_wp2_with fail
 refine Ke.mono ?_;rintro e w2 ⟨rfl,ap⟩;go_wp2;go_ret
 exact ⟨rfl,ap⟩
theorem UO (ts:List bH) (xs:List iU) (fv:Int) (A B:Option Addr) (n m c d:Nat) (F G:List Nat) (w:World) (h:Sl w ts A c F) (h':Sl w xs B d G) (hn:n = ts.length) (hm:m = xs.length) (hl:(ts.length:Int)≤1048576) (C1:(xs.length:Int)≤1048576)
 (cR:(∀t∈ts,(t.key.size:Int)≤1048576∧(t.value.size:Int)≤1048576)) (sz:(∀x∈xs,(x.key.size:Int)≤1048576∧(x.value.size:Int)≤1048576)) :
 Calls Tryz.prog 45 #[.slice A n c,.slice B m d,.int .i64 fv] w fun e w'=>e = .returned (.int .i64 (BD ts fv xs))∧Below w.heap.size w w':=by
 subst hm;subst hn;have Eo:=I cR;have Ns:=I sz;clear cR sz;go_enter Tryz.func45,Tryz.ntmps45;go_wp2_with fail
 go_loopw [7,12] (fun x i wr=>∃k:Nat,k≤xs.length∧i = .int .i64 k∧x = .int .i64 (BD ts fv (xs.take k))∧Below w.heap.size w wr) (fun _ i _=>xs.length - (intOf i).toNat)
 case atStart=>exact ⟨0,Nat.zero_le _,rfl,rfl,bx⟩
 case round =>
  obtain ⟨k,hk,rfl,rfl,ax⟩:=hrel;by_cases aq:k < xs.length
  ·obtain ⟨b,o,ck,Fk,rfl,o9,bc,hr,bv,hc⟩:=(Sl.ext (w':=wr) (A:=B) (c:=d) h' ax).get aq;obtain ⟨aw,su,b8,kP,lD⟩:=oK hr;subst aw;obtain ⟨q0,q1,q2⟩:=qB 3 hc;clear hc;obtain ⟨cX,cM⟩:=Ns.out xs[k] (List.getElem_mem ..);have hnt:=XM ts fv xs k;cases hef:(xs[k].effect == fv) with
   | false =>have hp:Ws ts fv xs[k] = false:=(by unfold Ws;rw [hef];rfl);have HN:=I (Q1 aq hp);clear hp;go_wp2;exact ⟨⟨k+1,J,N',by rw [HN.out] <;> first | rfl | go_num,ak ax _⟩,by simp [intOf];omega⟩
   | true =>
     cases han:(ts.any fun t=>AY t xs[k])
     all_goals
      have hp:Ws ts fv xs[k] = _:=(by unfold Ws;rw [hef,han]);have HA:=I han;clear han;first | have HN:=I (XK aq hp) | have HN:=I (Q1 aq hp)
      clear hp;go_wp2_with (go_at_call 87;refine (ahS ts A _ c F xs[k] wr.heap.size _ (Sl.ext (Sl.ext (w':=wr) h ax) bx) rfl Mo Mo Mo lD S' hl Eo.out cX cM).mono ?_;rw [HA.out];rintro e w2 ⟨rfl,ap⟩)
      exact ⟨⟨k+1,J,N',by rw [HN.out] <;> first | rfl | go_num,ah (ak ax _) ap⟩,by simp [intOf];omega⟩
  ·exact Hb
theorem UQ (ts:List bH) (xs:List iU) (fv:Int) (A B:Option Addr) (n m c d:Nat) (F G:List Nat) (w:World) (h:Sl w ts A c F) (h':Sl w xs B d G) (hn:n = ts.length) (hm:m = xs.length) (hl:(ts.length:Int)≤1048576) (C1:(xs.length:Int)≤1048576)
 (cR:(∀t∈ts,(t.key.size:Int)≤1048576∧(t.value.size:Int)≤1048576)) (sz:(∀x∈xs,(x.key.size:Int)≤1048576∧(x.value.size:Int)≤1048576)) :
 Calls Tryz.prog 129 #[.slice A n c,.slice B m d,.int .i64 fv] w fun e w'=>e = .returned (.int .i64 (BD ts fv xs))∧Below w.heap.size w w':=by
 subst hm;subst hn;have Eo:=I cR;have Ns:=I sz;clear cR sz;go_enter Tryz.func129,Tryz.ntmps129;go_wp2_with fail
 go_loopw [7,8] (fun x i wr=>∃k:Nat,k≤xs.length∧i = .int .i64 k∧x = .int .i64 (BD ts fv (xs.take k))∧Below w.heap.size w wr) (fun _ i _=>xs.length - (intOf i).toNat)
 case atStart=>exact ⟨0,Nat.zero_le _,rfl,rfl,bx⟩
 case round =>
  obtain ⟨k,hk,rfl,rfl,ax⟩:=hrel;by_cases aq:k < xs.length
  ·obtain ⟨b,o,ck,Fk,rfl,o9,bc,hr,bv,hc⟩:=(Sl.ext (w':=wr) (A:=B) (c:=d) h' ax).get aq;obtain ⟨aw,su,b8,kP,lD⟩:=oK hr;subst aw;obtain ⟨q0,q1,q2⟩:=qB 3 hc;clear hc;obtain ⟨cX,cM⟩:=Ns.out xs[k] (List.getElem_mem ..);have hnt:=XM ts fv xs k;generalize hz:(BD ts fv (xs.take k):Int) = z at *;have Dn:((xs[k].effect != fv) || (ts.take 0).any (fun t=>AY t xs[k])) = (xs[k].effect != fv):=S';obtain ⟨wo,hwo⟩:∃wo,wo = wr:=⟨_,rfl⟩;subst hwo;go_wp2_with fail
   go_loopw [9,10] (fun v u wi=>∃j:Nat,j≤ts.length∧u = .int .i64 j∧v = .bool ((xs[k].effect != fv) || (ts.take j).any (fun t=>AY t xs[k]))∧Below w.heap.size w wi∧Below wo.heap.size wo wi) (fun _ u _=>ts.length - (intOf u).toNat)
   case atStart=>exact ⟨0,Nat.zero_le _,rfl,by rw [Dn],ax,aj _⟩
   case round =>
    obtain ⟨j,hj,rfl,rfl,hbi,Ae⟩:=hrel;replace q0:=r' Ae q0 bc;replace q1:=r' Ae q1 bc;replace q2:=r' Ae q2 bc;replace bc:=Nat.lt_of_lt_of_le bc Ae.size;by_cases mD:j < ts.length
    ·obtain ⟨b2,o2,ck2,Fk2,rfl,ayO,uO,fR,oY,bX⟩:=(Sl.ext (w':=wr) (A:=A) (c:=c) h hbi).get mD;obtain ⟨aw,abT,vC,rP,uY⟩:=jv fR;subst aw;obtain ⟨p0,p1,p2,p3⟩:=IA 4 bX;clear bX;obtain ⟨Qj,ht2⟩:=Eo.out ts[j] (List.getElem_mem ..);have gL:(ts.take (j+1)).any (fun t=>AY t xs[k]) = ((ts.take j).any (fun t=>AY t xs[k]) || AY ts[j] xs[k]):=(by rw [List.take_succ_eq_append_getElem mD,List.any_append];simp);generalize hv:((xs[k].effect != fv) || (ts.take j).any (fun t=>AY t xs[k])) = v at *;have fb:((xs[k].effect != fv) || (ts.take (j+1)).any (fun t=>AY t xs[k])) = (v || AY ts[j] xs[k]):=(by rw [gL,← Bool.or_assoc,hv]);have Jf:=I fb;clear fb gL hv Dn;cases v
     all_goals
      go_wp2_with fail
      refine aF _ U' U' (aj _) ?_
      repeat (first
       | (apply aG
          case hw=>rfl
          simp only [Act.put,pz])
       | (apply aH
          case hw=>rfl
          case h =>
           intro wq hq;have dC:=(aB hq).1;have lJ:=(aB hq).2;go_simp
           first
            | exact ⟨hq,rfl⟩
            | exact ⟨aQ hq _,rfl⟩
            | (refine (ahN ts[j] xs[k] _ _ _ [] _ (aJ fR Uh) (Q8 _ xs[k] b8 kP lD) Qj ht2 cX cM).mono ?_;rintro e w2 ⟨rfl,ap⟩;exact ⟨rfl,aI hq ap⟩)
            | (simp only [↓IntWalk.iteOmega];exact ⟨hq,rfl⟩)
          simp only [Act.put,pz]))
      refine aN ?_;intro wn hn;replace hn:=hn.out;go_wp2;exact ⟨⟨j+1,J,N',by rw [Jf.out];rfl,ah hbi hn,ah Ae hn⟩,by simp [intOf];omega⟩
    ·have Pp:j = ts.length:=J;subst Pp;rw [List.take_length];cases hef:(xs[k].effect == fv) <;> cases han:(ts.any fun t=>AY t xs[k])
     all_goals
      have hp:Ws ts fv xs[k] = _:=(by unfold Ws;rw [hef,han]);simp only [Bool.false_and,Bool.true_and,Bool.not_true,Bool.not_false] at hp;first | have HN:=I (XK aq hp) | have HN:=I (Q1 aq hp)
      have bN:(xs[k].effect != fv) = _:=(by unfold bne;rw [hef]);rw [bN];clear hp han;go_wp2;exact ⟨⟨k+1,J,N',by rw [HN.out,← hz] <;> first | rfl | go_num,hbi⟩,by simp [intOf];omega⟩
  ·exact Hb
def Rt (nm:ByteArray) (x:aU) (p:nI):Int :=
 if pK (iM nm) x.aa < 0 then 0 else
 match x.aa[(pK (iM nm) x.aa).toNat]? with
 | none=>0
 | some h=>max 0 (100 - 25 * (BD p.ae 2 h.aT:Int))
theorem XP {nm:ByteArray} {x:aU} {p:nI} (h:pK (iM nm) x.aa = -1):Rt nm x p = 0:=by unfold Rt;rw [h];rfl
theorem XQ {nm:ByteArray} {x:aU} {p:nI} {k:Nat} (hk:k < x.aa.length) (h:pK (iM nm) x.aa = k):Rt nm x p = max 0 (100 - 25 * (BD p.ae 2 x.aa[k].aT:Int)):=by
 unfold Rt;rw [h,if_neg J,Int.toNat_natCast,List.getElem?_eq_getElem hk]
theorem ZJ (x:aU) (p:nI) (cs ps:List Value) (F G:List Nat) (nm:ByteArray) (w:World) (h:rd w x cs F) (h':rd w p ps G) (hw:(x.wt:Int)≤1048576) (eh:(p.wt:Int)≤1048576) :
 Calls Tryz.prog 26 #[.agg cs.toArray,.string nm,.agg ps.toArray] w fun e w'=>e = .returned (.int .i64 (Rt nm x p))∧Below w.heap.size w w':=by
 have gE:x.wt = kL aM.wt x.aa+kL af.wt x.au:=rfl;have vd:p.wt = p.name.size+kL ao.wt p.labels+kL aD.wt p.ag+kL bH.wt p.ae:=rfl;have bR:(x.aa.length:Int)≤1048576:=by have:=gJ aM.wt x.aa;omega
 obtain ⟨kw,i6⟩:=FQ (xs:=p.ae) J;have Ux:=I i6;clear i6;obtain ⟨bG,bD,fQ,dn,bW,jg,aw,hF,bQ,dM,hnext,aV,aP,aW⟩:=aO h;obtain ⟨bY,bZ,iq,eU,eX,jV,bg,bn,dK,jU,hG,jW,dA,kQ,lg,lG,iO,bK⟩:=dL h';subst aw jU;rcases yg (iM nm) x.aa with hi | ⟨k,hk,hi⟩
 ·have HF:=I (XP (p:=p) hi);have HI:=I hi;clear hi;go_enter Tryz.func26,Tryz.ntmps26;go_wp2_with fail
  refine (gK x _ _ nm _ (aJ h bx) bR).mono ?_;rw [HI.out];rintro e w2 ⟨rfl,ap⟩;exact dr
 ·have HF:=I (XQ (p:=p) hk hi);have HI:=I hi;clear hi;have fo:(kL iU.wt x.aa[k].aT:Int)≤1048576:=by
   exact GD
  obtain ⟨mN,hxs⟩:=BH fo;have Q2:=I hxs;clear hxs;have Bp:=UN p.ae 2 x.aa[k].aT;obtain ⟨b,o,ck,Fk,rfl,o9,bc,hr,bv,hc⟩:=Sl.get (α:=aM) (A:=bG) (c:=bD) bQ hk;obtain ⟨jM,jO,sN,jE,jF,sO,aw,su,zM,qY,Gt,Gw,xg,qA⟩:=iy hr;subst aw;obtain ⟨q0,q1,q2,q3,q4,q5⟩:=nU 6 hc;clear hc;go_enter Tryz.func26,Tryz.ntmps26;go_wp2_with fail
  refine (gK x _ _ nm _ (aJ h bx) bR).mono ?_;rw [HI.out];rintro e w2 ⟨rfl,ap⟩;obtain ⟨bX,cG⟩:=ay ap;have cj:w.heap.size+1 < w2.heap.size:=sq ap.size;have kn:w.heap.size < w2.heap.size:=by omega
  have eg:Below w.heap.size w w2:=bx;replace q5:=r' eg q5 bc;have uO:b < w2.heap.size:=by omega
  have sA:∀wq,Below w.heap.size w wq→Calls Tryz.prog 45 #[.slice bg p.ae.length bn,.slice jE x.aa[k].aT.length jF,.int .i64 2] wq fun e w'=>e = .returned (.int .i64 (BD p.ae 2 x.aa[k].aT))∧Below wq.heap.size wq w' :=
   fun wq hq=>UO p.ae x.aa[k].aT 2 _ _ _ _ _ _ _ _ _ (bK.ext hq) (qA.ext hq) rfl rfl kw mN Ux.out Q2.out
  have FF:=I sA;clear sA;generalize BD p.ae 2 x.aa[k].aT = z at FF HF Bp;have qR:(z:Int)≤1048576:=by omega
  have oI:IntKind.i64.wrap (25 * (z:Int)) = 25 * (z:Int):=IntWalk.i64_in _ J;have om:IntKind.i64.wrap (100 - 25 * (z:Int)) = 100 - 25 * (z:Int):=IntWalk.i64_in _ J;by_cases fu:(100:Int) - 25 * (z:Int)≤0
  ·have hM:max 0 (100 - 25 * (z:Int)) = 0:=J;have HM:=I hM;clear hM;go_wp2_with fail
   refine aF w2 U' U' (aj _) ?_
   repeat ((first | refine aG O ?_ | refine aH _ O FL ?_);simp only [Act.put,pz])
   exact GQ
  ·have Kf:(0:Int) < 100 - 25 * (z:Int):=J;have hM:max 0 (100 - 25 * (z:Int)) = 100 - 25 * (z:Int):=J;have HM:=I hM;clear hM;have eM:(100:Int) - 25 * (z:Int)≤100:=J;go_wp2_with fail
   refine aF w2 U' U' (aj _) ?_
   repeat ((first | refine aG O ?_ | refine aH _ O FL ?_);simp only [Act.put,pz])
   exact GB
theorem acy (n:Int) (w:World) (h:n≤100) (h0:-9223372036854775808≤n):Calls Tryz.prog 144 #[.int .i64 n,.int .i64 0,.int .i64 100] w fun e w'=>e = .returned (.int .i64 (max 0 n))∧w' = w:=by
 by_cases hn:n < 0
 ·rw [show max 0 n = 0 by omega];go_enter Tryz.func144,Tryz.ntmps144;go_wp2;go_ret
  exact ⟨rfl,rfl⟩
 ·rw [show max 0 n = n by omega];go_enter Tryz.func144,Tryz.ntmps144;go_wp2;go_ret
  exact ⟨rfl,rfl⟩
theorem ZI (x:aU) (p:nI) (cs ps:List Value) (F G:List Nat) (nm:ByteArray) (w:World) (h:rd w x cs F) (h':rd w p ps G) (hw:(x.wt:Int)≤1048576) (eh:(p.wt:Int)≤1048576) :
 Calls Tryz.prog 102 #[.agg cs.toArray,.string nm,.agg ps.toArray] w fun e w'=>e = .returned (.int .i64 (Rt nm x p))∧Below w.heap.size w w':=by
 have gE:x.wt = kL aM.wt x.aa+kL af.wt x.au:=rfl;have vd:p.wt = p.name.size+kL ao.wt p.labels+kL aD.wt p.ag+kL bH.wt p.ae:=rfl;have bR:(x.aa.length:Int)≤1048576:=by have:=gJ aM.wt x.aa;omega
 obtain ⟨kw,i6⟩:=FQ (xs:=p.ae) J;have Ux:=I i6;clear i6;obtain ⟨bG,bD,fQ,dn,bW,jg,aw,hF,bQ,dM,hnext,aV,aP,aW⟩:=aO h;obtain ⟨bY,bZ,iq,eU,eX,jV,bg,bn,dK,jU,hG,jW,dA,kQ,lg,lG,iO,bK⟩:=dL h';subst aw jU;rcases yg (iM nm) x.aa with hi | ⟨k,hk,hi⟩
 ·have HF:=I (XP (p:=p) hi);have HI:=I hi;clear hi;go_enter Tryz.func102,Tryz.ntmps102;go_wp2_with fail
  refine (gQ x _ _ nm _ (aJ h bx) bR).mono ?_;rw [HI.out];rintro e w2 ⟨rfl,ap⟩;exact dr
 ·have HF:=I (XQ (p:=p) hk hi);have HI:=I hi;clear hi;have fo:(kL iU.wt x.aa[k].aT:Int)≤1048576:=by
   exact GD
  obtain ⟨mN,hxs⟩:=BH fo;have Q2:=I hxs;clear hxs;have Bp:=UN p.ae 2 x.aa[k].aT;obtain ⟨b,o,ck,Fk,rfl,o9,bc,hr,bv,hc⟩:=Sl.get (α:=aM) (A:=bG) (c:=bD) bQ hk;obtain ⟨jM,jO,sN,jE,jF,sO,aw,su,zM,qY,Gt,Gw,xg,qA⟩:=iy hr;subst aw;obtain ⟨q0,q1,q2,q3,q4,q5⟩:=nU 6 hc;clear hc;go_enter Tryz.func102,Tryz.ntmps102;go_wp2_with fail
  refine (gQ x _ _ nm _ (aJ h bx) bR).mono ?_;rw [HI.out];rintro e w2 ⟨rfl,ap⟩;obtain ⟨bX,cG⟩:=ay ap;have cj:w.heap.size+1 < w2.heap.size:=sq ap.size;have kn:w.heap.size < w2.heap.size:=by omega
  have eg:Below w.heap.size w w2:=bx;replace q5:=r' eg q5 bc;have uO:b < w2.heap.size:=by omega
  have sA:∀wq,Below w.heap.size w wq→Calls Tryz.prog 129 #[.slice bg p.ae.length bn,.slice jE x.aa[k].aT.length jF,.int .i64 2] wq fun e w'=>e = .returned (.int .i64 (BD p.ae 2 x.aa[k].aT))∧Below wq.heap.size wq w' :=
   fun wq hq=>UQ p.ae x.aa[k].aT 2 _ _ _ _ _ _ _ _ _ (bK.ext hq) (qA.ext hq) rfl rfl kw mN Ux.out Q2.out
  have FF:=I sA;clear sA;generalize BD p.ae 2 x.aa[k].aT = z at FF HF Bp;have qR:(z:Int)≤1048576:=by omega
  have oI:IntKind.i64.wrap (25 * (z:Int)) = 25 * (z:Int):=IntWalk.i64_in _ J;have om:IntKind.i64.wrap (100 - 25 * (z:Int)) = 100 - 25 * (z:Int):=IntWalk.i64_in _ J;by_cases fu:(100:Int) - 25 * (z:Int)≤0
  ·have hM:max 0 (100 - 25 * (z:Int)) = 0:=J;have HM:=I hM;clear hM;go_wp2_with fail
   refine aF w2 U' U' (aj _) ?_
   repeat ((first | refine aG O ?_ | refine aH _ O FE ?_);simp only [Act.put,pz])
   exact GQ
  ·have Kf:(0:Int) < 100 - 25 * (z:Int):=J;have hM:max 0 (100 - 25 * (z:Int)) = 100 - 25 * (z:Int):=J;have HM:=I hM;clear hM;have eM:(100:Int) - 25 * (z:Int)≤100:=J;go_wp2_with fail
   refine aF w2 U' U' (aj _) ?_
   repeat ((first | refine aG O ?_ | refine aH _ O FE ?_);simp only [Act.put,pz])
   exact GB
def oo (labels:List ao) (x:aD):Bool:=uh x &&
 (if x.op = 1 then (Df x.key labels).2&&MF (Df x.key labels).1 x.values
  else if x.op = 2 then !(Df x.key labels).2 || !MF (Df x.key labels).1 x.values
  else if x.op = 3 then (Df x.key labels).2 else !(Df x.key labels).2)
theorem XS {labels:List ao} {x:aD} (h:uh x = false):oo labels x = false:=by unfold oo;rw [h];rfl
theorem XT {x:aD} (h:uh x = true):x.op = 1∨x.op = 2∨x.op = 3∨x.op = 4:=by
 unfold uh at h;exact uL
theorem XU (labels:List ao) (x:aD) (A:Option Addr) (n c:Nat) (F:List Nat) (cs:List Value) (G:List Nat) (w:World) (h:Sl w labels A c F) (hn:n = labels.length) (h':rd w x cs G) (fq:(labels.length:Int)≤1048576)
 (eV:(x.key.size:Int)≤1048576) (hl:(x.values.length:Int)≤1048576) (cR:∀v∈x.values,(v.size:Int)≤1048576) :
 Calls Tryz.prog 86 #[.slice A n c,.agg cs.toArray] w fun e w'=>e = .returned (.bool (oo labels x))∧Below w.heap.size w w':=by
 subst hn;have Eo:=I cR;clear cR;have hr:=h';obtain ⟨jy,ji,Bo,aw,qp,b8,eN,kV⟩:=og hr;subst aw;clear qp hr;cases hK:uh x with
 | false =>
   have HF:=I (XS (labels:=labels) hK);have HK:=I hK;clear hK;go_enter Tryz.func86,Tryz.ntmps86;go_wp2_with fail
   refine (Rw x _ _ _ (aJ h' bx) eV hl Eo.out).mono ?_;rw [HK.out];rintro e w2 ⟨rfl,ap⟩;exact dr
 | true =>
   have Br:=XT hK
   have HU:=I (show oo labels x = (if x.op = 1 then (Df x.key labels).2&&MF (Df x.key labels).1 x.values
  else if x.op = 2 then !(Df x.key labels).2 || !MF (Df x.key labels).1 x.values
  else if x.op = 3 then (Df x.key labels).2 else !(Df x.key labels).2) by unfold oo;rw [hK,Bool.true_and])
   have HK:=I hK;clear hK;obtain ⟨v,t,hvt⟩:∃v t,Df x.key labels = (v,t):=⟨_,_,rfl⟩;have hu:=HU.out;rw [hvt] at hu;have HL:=I hvt;clear HU hvt;go_enter Tryz.func86,Tryz.ntmps86;go_wp2_with fail
   refine (Rw x _ _ _ (aJ h' bx) eV hl Eo.out).mono ?_;rw [HK.out];rintro e w2 ⟨rfl,ap⟩;obtain ⟨bX,cG⟩:=ay ap;have cj:w.heap.size < w2.heap.size:=(by have:=ap.size;simp at this;omega);have tN:w2.cell? ⟨w.heap.size,0,none⟩ = some (.string x.key):=(by rw [bX _ _ S',cell_of_row _ _ _ _ _ _ (heap_alloc_new w _)];rfl);have et:w2.cell? ⟨w.heap.size,1,none⟩ = some (.int .i64 x.op):=(by rw [bX _ _ S',cell_of_row _ _ _ _ _ _ (heap_alloc_new w _)];rfl);have ni:w2.cell? ⟨w.heap.size,2,none⟩ = some (.slice jy x.values.length ji):=(by rw [bX _ _ S',cell_of_row _ _ _ _ _ _ (heap_alloc_new w _)];rfl);have eg:Below w.heap.size w w2:=bx;clear bX cG;go_wp2_with fail
   refine (akJ labels x.key _ _ _ _ _ (h.ext eg) rfl fq).mono ?_;rw [HL.out];rintro e w3 ⟨rfl,aR⟩;replace et:=r' aR et cj;replace ni:=r' aR ni cj;have cW:w.heap.size < w3.heap.size:=(by have:=aR.size;omega);have di:=ah eg aR;clear tN;have HU:=I hu;clear hu;rcases Br with eN | eN | eN | eN
   all_goals
    have hu:=HU.out;rw [eN] at hu et;simp only [Int.reduceEq,↓reduceIte] at hu;cases hh:MF v x.values <;> cases t
    all_goals
     have b4:=hu;try rw [hh] at b4
     have cV:=I b4;have HH:=I hh;clear b4 hu hh eN;go_wp2_with (go_at_call 134;refine (VG x.values v _ _ _ _ _ (kV.ext bx) rfl hl).mono ?_;rw [HH.out];rintro e w4 ⟨rfl,bu⟩)
     go_ret
     exact ⟨by rw [cV.out];rfl,bx⟩
theorem XV (labels:List ao) (x:aD) (A:Option Addr) (n c:Nat) (F:List Nat) (cs:List Value) (G:List Nat) (w:World) (h:Sl w labels A c F) (hn:n = labels.length) (h':rd w x cs G) (fq:(labels.length:Int)≤1048576)
 (eV:(x.key.size:Int)≤1048576) (hl:(x.values.length:Int)≤1048576) (cR:∀v∈x.values,(v.size:Int)≤1048576) :
 Calls Tryz.prog 153 #[.slice A n c,.agg cs.toArray] w fun e w'=>e = .returned (.bool (oo labels x))∧Below w.heap.size w w':=by
 subst hn;have Eo:=I cR;clear cR;have hr:=h';obtain ⟨jy,ji,Bo,aw,qp,b8,eN,kV⟩:=og hr;subst aw;clear qp hr;cases hK:uh x with
 | false =>
   have HF:=I (XS (labels:=labels) hK);have HK:=I hK;clear hK;go_enter Tryz.func153,Tryz.ntmps153;go_wp2_with fail
   refine (Rx x _ _ _ (aJ h' bx) eV hl Eo.out).mono ?_;rw [HK.out];rintro e w2 ⟨rfl,ap⟩;exact dr
 | true =>
   have Br:=XT hK
   have HU:=I (show oo labels x = (if x.op = 1 then (Df x.key labels).2&&MF (Df x.key labels).1 x.values
  else if x.op = 2 then !(Df x.key labels).2 || !MF (Df x.key labels).1 x.values
  else if x.op = 3 then (Df x.key labels).2 else !(Df x.key labels).2) by unfold oo;rw [hK,Bool.true_and])
   have HK:=I hK;clear hK;obtain ⟨v,t,hvt⟩:∃v t,Df x.key labels = (v,t):=⟨_,_,rfl⟩;have hu:=HU.out;rw [hvt] at hu;have HL:=I hvt;clear HU hvt;go_enter Tryz.func153,Tryz.ntmps153;go_wp2_with fail
   refine (Rx x _ _ _ (aJ h' bx) eV hl Eo.out).mono ?_;rw [HK.out];rintro e w2 ⟨rfl,ap⟩;obtain ⟨bX,cG⟩:=ay ap;have cj:w.heap.size < w2.heap.size:=(by have:=ap.size;simp at this;omega);have tN:w2.cell? ⟨w.heap.size,0,none⟩ = some (.string x.key):=(by rw [bX _ _ S',cell_of_row _ _ _ _ _ _ (heap_alloc_new w _)];rfl);have et:w2.cell? ⟨w.heap.size,1,none⟩ = some (.int .i64 x.op):=(by rw [bX _ _ S',cell_of_row _ _ _ _ _ _ (heap_alloc_new w _)];rfl);have ni:w2.cell? ⟨w.heap.size,2,none⟩ = some (.slice jy x.values.length ji):=(by rw [bX _ _ S',cell_of_row _ _ _ _ _ _ (heap_alloc_new w _)];rfl);have eg:Below w.heap.size w w2:=bx;clear bX cG;go_wp2_with fail
   refine (akK labels x.key _ _ _ _ _ (h.ext eg) rfl fq).mono ?_;rw [HL.out];rintro e w3 ⟨rfl,aR⟩;replace et:=r' aR et cj;replace ni:=r' aR ni cj;have cW:w.heap.size < w3.heap.size:=(by have:=aR.size;omega);have di:=ah eg aR;clear tN;have HU:=I hu;clear hu;rcases Br with eN | eN | eN | eN
   all_goals
    have hu:=HU.out;rw [eN] at hu et;simp only [Int.reduceEq,↓reduceIte] at hu;cases hh:MF v x.values <;> cases t
    all_goals
     have b4:=hu;try rw [hh] at b4
     have cV:=I b4;have HH:=I hh;clear b4 hu hh eN;go_wp2_with (go_at_call 163;refine (aaG x.values v _ _ _ _ _ (kV.ext bx) rfl hl).mono ?_;rw [HH.out];rintro e w4 ⟨rfl,bu⟩)
     go_ret
     exact ⟨by rw [cV.out];rfl,bx⟩
def Hw (labels:List ao) (xs:List aD):Bool:=xs.all (oo labels)
theorem XW {labels:List ao} {xs:List aD} {k:Nat} (hk:k < xs.length) (h:oo labels xs[k] = false):Hw labels xs = false:=by
 unfold Hw;rw [List.all_eq_false];exact ⟨xs[k],List.getElem_mem ..,by simp [h]⟩
theorem XY {α:Type} {p:α→Bool} {xs:List α} {k:Nat} (hk:k < xs.length) (h:∀x∈xs.take k,p x = true) (hx:p xs[k] = true):∀x∈xs.take (k+1),p x = true:=by
 rw [List.take_succ_eq_append_getElem hk];intro x hm;rcases List.mem_append.1 hm with hm | hm
 ·exact h x hm
 ·simp only [List.mem_singleton] at hm;rw [hm];exact hx
theorem acv {labels:List ao} {xs:List aD} (h:∀x∈xs,oo labels x = true):Hw labels xs = true:=by
 unfold Hw;rw [List.all_eq_true];exact h
theorem ala (xs:List aD) (labels:List ao) (A B:Option Addr) (n m c d:Nat) (F G:List Nat) (w:World) (h:Sl w xs A c F) (h':Sl w labels B d G) (hn:n = xs.length) (hm:m = labels.length) (hl:(xs.length:Int)≤1048576) (fq:(labels.length:Int)≤1048576)
 (cR:(∀l∈xs,(l.key.size:Int)≤1048576∧(l.values.length:Int)≤1048576∧∀v∈l.values,(v.size:Int)≤1048576)) :
 Calls Tryz.prog 44 #[.slice A n c,.slice B m d] w fun e w'=>e = .returned (.bool (Hw labels xs))∧Below w.heap.size w w':=by
 subst hn hm;have Eo:=I cR;clear cR;go_enter Tryz.func44,Tryz.ntmps44;go_wp2_with fail
 go_loopw [9] (fun i wr=>∃k:Nat,k≤xs.length∧i = .int .i64 k∧Hid (∀x∈xs.take k,oo labels x = true)∧Below w.heap.size w wr) (fun i _=>xs.length - (intOf i).toNat)
 case atStart=>exact ⟨0,Nat.zero_le _,rfl,by show ∀_,_;simp,bx⟩
 case round =>
  obtain ⟨k,hk,rfl,HN,ax⟩:=hrel;by_cases aq:k < xs.length
  ·obtain ⟨b,o,ck,Fk,rfl,o9,bc,hr,bv,hc⟩:=(Sl.ext (w':=wr) (A:=A) (c:=c) h ax).get aq;obtain ⟨jy,ji,Bo,aw,su,b8,eN,kV⟩:=og hr;subst aw;obtain ⟨q0,q1,q2⟩:=qB 3 hc;clear hc;obtain ⟨cX,cM,hs3⟩:=Eo.out xs[k] (List.getElem_mem ..);cases hp:oo labels xs[k] with
   | true =>
     have Gn:=I (XY aq HN.out hp);have HP:=I hp;clear hp;go_wp2_with fail
     refine (XU labels xs[k] _ _ _ _ _ _ _ (h'.ext bx) rfl (aJ hr bx) fq cX cM hs3).mono ?_;rw [HP.out];rintro e wn ⟨rfl,hn⟩;exact zl
   | false =>
     have HF:=I (XW aq hp);have HP:=I hp;clear hp;go_wp2_with fail
     refine (XU labels xs[k] _ _ _ _ _ _ _ (h'.ext bx) rfl (aJ hr bx) fq cX cM hs3).mono ?_;rw [HP.out];rintro e wn ⟨rfl,hn⟩;exact dr
  ·exact Iu
theorem alb (xs:List aD) (labels:List ao) (A B:Option Addr) (n m c d:Nat) (F G:List Nat) (w:World) (h:Sl w xs A c F) (h':Sl w labels B d G) (hn:n = xs.length) (hm:m = labels.length) (hl:(xs.length:Int)≤1048576) (fq:(labels.length:Int)≤1048576)
 (cR:(∀l∈xs,(l.key.size:Int)≤1048576∧(l.values.length:Int)≤1048576∧∀v∈l.values,(v.size:Int)≤1048576)) :
 Calls Tryz.prog 128 #[.slice A n c,.slice B m d] w fun e w'=>e = .returned (.bool (Hw labels xs))∧Below w.heap.size w w':=by
 subst hn hm;have Eo:=I cR;clear cR;go_enter Tryz.func128,Tryz.ntmps128;go_wp2_with fail
 go_loopw [5] (fun i wr=>∃k:Nat,k≤xs.length∧i = .int .i64 k∧Hid (∀x∈xs.take k,oo labels x = true)∧Below w.heap.size w wr) (fun i _=>xs.length - (intOf i).toNat)
 case atStart=>exact ⟨0,Nat.zero_le _,rfl,by show ∀_,_;simp,bx⟩
 case round =>
  obtain ⟨k,hk,rfl,HN,ax⟩:=hrel;by_cases aq:k < xs.length
  ·obtain ⟨b,o,ck,Fk,rfl,o9,bc,hr,bv,hc⟩:=(Sl.ext (w':=wr) (A:=A) (c:=c) h ax).get aq;obtain ⟨jy,ji,Bo,aw,su,b8,eN,kV⟩:=og hr;subst aw;obtain ⟨q0,q1,q2⟩:=qB 3 hc;clear hc;obtain ⟨cX,cM,hs3⟩:=Eo.out xs[k] (List.getElem_mem ..);cases hp:oo labels xs[k] with
   | true =>
     have Gn:=I (XY aq HN.out hp);have HP:=I hp;clear hp;go_wp2_with fail
     refine (XV labels xs[k] _ _ _ _ _ _ _ (h'.ext bx) rfl (aJ hr bx) fq cX cM hs3).mono ?_;rw [HP.out];rintro e wn ⟨rfl,hn⟩;exact zl
   | false =>
     have HF:=I (XW aq hp);have HP:=I hp;clear hp;go_wp2_with fail
     refine (XV labels xs[k] _ _ _ _ _ _ _ (h'.ext bx) rfl (aJ hr bx) fq cX cM hs3).mono ?_;rw [HP.out];rintro e wn ⟨rfl,hn⟩;exact dr
  ·exact Iu
end Go.Proofs.YtajbbmembionpaaGreat
