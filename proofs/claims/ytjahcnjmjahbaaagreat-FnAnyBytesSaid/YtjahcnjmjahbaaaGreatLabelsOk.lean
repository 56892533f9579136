/- LabelsOk, of the program and of the reference. No condition. -/
import Derived.Test.YtjahcnjmjahbaaaGreatKeys
import Derived.Test.YtjahcnjmjahbaaaGreatEq
namespace Go.Proofs.YtjahcnjmjahbaaaGreat
open Go.ChangeShapes Go.WideShapes Go.ChangeAt Go.RowKit
set_option linter.unusedVariables false
set_option linter.unusedSimpArgs false
set_option maxHeartbeats 2000000
set_option maxRecDepth 100000
def zX (l:ao):Bool:=Cm l.key&&AQ l.value
def zi (a b:ao):Bool:=Op.bytesLess a.key.toList b.key.toList
def sD (xs:List ao):Bool:=mw zX zi 6 xs
theorem Jv (xs:List ao) (A:Option Addr) (n c:Nat) (F:List Nat) (w:World) (h:Sl w xs A c F) (hn:n = xs.length) (hl:(xs.length:Int)<=1048576) (cR:∀l∈xs,(l.key.size:Int)<=1048576/\(l.value.size:Int)<=1048576) :
 Calls Tryz.prog 76 #[.slice A n c] w λe w'=>e = .returned (.bool (sD xs))/\Below w.heap.size w w':=by
 subst hn;have Eo:=I cR;clear cR;go_enter Tryz.func76,Tryz.ntmps76;go_wp2_with fail
 go_loopw [7] (λi wr=>∃k:Nat,k<=xs.length/\i = .int .i64 k/\Hid (∀j,j < k->rowAt zX zi xs j = true)/\Below w.heap.size w wr) (λi _=>xs.length - (intOf i).toNat)
 case atStart=>exact ⟨0,Nat.zero_le _,rfl,(λj hj=>by omega),bc⟩
 case round =>
  obtain ⟨k,hk,rfl,hall,ax⟩:=hrel;by_cases am:k < xs.length
  ·obtain rfl | ⟨j,rfl⟩:k = 0∨∃j,k = j+1:=by cases k with | zero=>exact .inl rfl | succ j=>exact .inr ⟨j,rfl⟩
   ·obtain ⟨b,o,ck,Fk,rfl,o9,hbs,hr,bm,hc⟩:=(Sl.ext (w':=wr) (A:=A) (c:=c) h ax).get am;obtain ⟨aq,su,b9,kP⟩:=vO hr;subst aq;obtain ⟨q0,q1⟩:=xN 2 hc;clear hc;simp only [Nat.zero_mul,Nat.add_zero] at q0 q1;have cF:=(Eo.out xs[0] (List.getElem_mem ..)).1;have cC:=(Eo.out xs[0] (List.getElem_mem ..)).2;cases h1:Cm xs[0].key <;> cases h2:AQ xs[0].value
    all_goals
     have hp:=bF (ok:=zX) (less:=zi) am;unfold zX at hp;rw [h1,h2] at hp;simp only [Bool.false_and,Bool.and_false,Bool.and_true,Bool.and_self] at hp;change rowAt zX zi xs _ = _ at hp;have H1:=I h1;have H2:=I h2
     first
      | have HN:=I (gq hall.out hp)
      | have HF:=I (wU (most:=6) am hp)
     clear h1 h2 hp;go_wp2_with fail
     refine aF _ U' U' (aj _) ?_
     repeat (first
      | (apply aG
         case hw=>rfl
         simp only [Act.put,pz])
      | (apply aH
         case hw=>rfl
         case h =>
          intro wq hq;have cN:=(aB hq).1;have lJ:=(aB hq).2;go_simp
          first
           | exact ⟨hq,rfl⟩
           | exact ⟨aQ hq _,rfl⟩
           | (first | (refine (rX xs[0].key _ cF).mono ?_;rw [H1.out];rintro e w2 ⟨rfl,ap⟩;exact ⟨rfl,aI hq ap⟩) | (refine (xQ xs[0].value _ cC).mono ?_;rw [H2.out];rintro e w2 ⟨rfl,ap⟩;exact ⟨rfl,aI hq ap⟩))
           | (simp only [↓IntWalk.iteOmega];exact ⟨hq,rfl⟩)
         simp only [Act.put,pz]))
     refine aN ?_;intro wn hn;replace hn:=hn.out;go_wp2
     first
      | exact ⟨⟨0+1,J,N',HN.out,ah (ak ax _) hn⟩,by simp [intOf];omega⟩
      | (go_ret;exact ⟨by unfold sD;rw [HF.out];rfl,ah (ak ax _) hn⟩)
   ·obtain ⟨b,o,ck,Fk,rfl,o9,hbs,hr,bm,hc⟩:=(Sl.ext (w':=wr) (A:=A) (c:=c) h ax).get am;obtain ⟨aq,su,b9,kP⟩:=vO hr;subst aq;obtain ⟨q0,q1⟩:=xN 2 hc;clear hc;obtain ⟨b',o',TY,Xw,e,Ht,hbs',cJ,zQ,hc'⟩:=Sl.get (Sl.ext (w':=wr) (c:=c) h ax) (show j < xs.length by omega);obtain ⟨jU,abT,vC,rP⟩:=vO cJ;subst jU;obtain ⟨rfl,rfl⟩:b' = b/\o' = o:=by simpa using e.symm
    clear e;obtain ⟨p0,p1⟩:=xN 2 hc';clear hc';have qd:IntKind.i64.wrap (j:Int) = j:=IntWalk.i64_in _ J;have gp:j < xs.length:=J;have cF:=(Eo.out xs[j+1] (List.getElem_mem ..)).1;have cC:=(Eo.out xs[j+1] (List.getElem_mem ..)).2;cases h1:Cm xs[j+1].key <;> cases h2:AQ xs[j+1].value <;> cases h3:Op.bytesLess xs[j].key.toList xs[j+1].key.toList
    all_goals
     have hp:=yS (ok:=zX) (less:=zi) am;unfold zX zi at hp;rw [h1,h2,h3] at hp;simp only [Bool.false_and,Bool.and_false,Bool.and_true,Bool.and_self] at hp;change rowAt zX zi xs _ = _ at hp;have H1:=I h1;have H2:=I h2
     first
      | have HN:=I (gq hall.out hp)
      | have HF:=I (wU (most:=6) am hp)
     clear h1 h2 hp;go_wp2_with fail
     refine aF _ U' U' (aj _) ?_
     repeat (first
      | (apply aG
         case hw=>rfl
         simp only [Act.put,pz])
      | (apply aH
         case hw=>rfl
         case h =>
          intro wq hq;have cN:=(aB hq).1;have lJ:=(aB hq).2;go_simp
          first
           | exact ⟨hq,rfl⟩
           | exact ⟨aQ hq _,rfl⟩
           | (first | (refine (rX xs[j+1].key _ cF).mono ?_;rw [H1.out];rintro e w2 ⟨rfl,ap⟩;exact ⟨rfl,aI hq ap⟩) | (refine (xQ xs[j+1].value _ cC).mono ?_;rw [H2.out];rintro e w2 ⟨rfl,ap⟩;exact ⟨rfl,aI hq ap⟩))
           | (simp only [↓IntWalk.iteOmega];exact ⟨hq,rfl⟩)
         simp only [Act.put,pz]))
     refine aN ?_;intro wn hn;replace hn:=hn.out;go_wp2
     first
      | exact ⟨⟨j+1+1,J,N',HN.out,ah (ak ax _) hn⟩,by simp [intOf];omega⟩
      | (go_ret;exact ⟨by unfold sD;rw [HF.out];rfl,ah (ak ax _) hn⟩)
  ·have bs:k = xs.length:=J;subst bs;by_cases hm:(xs.length:Int)<=6
   ·have HF:=I (Jy hm hall.out);go_wp2;go_ret
    exact ⟨by unfold sD;rw [HF.out];first | rfl | simp [hm],ax⟩
   ·have HF:=I (Jz (ok:=zX) (less:=zi) hm);go_wp2;go_ret
    exact ⟨by unfold sD;rw [HF.out];first | rfl | simp [hm],ax⟩
theorem Jw (xs:List ao) (A:Option Addr) (n c:Nat) (F:List Nat) (w:World) (h:Sl w xs A c F) (hn:n = xs.length) (hl:(xs.length:Int)<=1048576) (cR:∀l∈xs,(l.key.size:Int)<=1048576/\(l.value.size:Int)<=1048576) :
 Calls Tryz.prog 90 #[.slice A n c] w λe w'=>e = .returned (.bool (sD xs))/\Below w.heap.size w w':=by
 subst hn;have Eo:=I cR;clear cR;by_cases hm:(xs.length:Int)<=6
 ·go_enter Tryz.func90,Tryz.ntmps90;go_wp2_with fail
  go_loopw [3] (λi wr=>∃k:Nat,k<=xs.length/\i = .int .i64 k/\Hid (∀j,j < k->rowAt zX zi xs j = true)/\Below w.heap.size w wr) (λi _=>xs.length - (intOf i).toNat)
  case atStart=>exact ⟨0,Nat.zero_le _,rfl,(λj hj=>by omega),bc⟩
  case round =>
   obtain ⟨k,hk,rfl,hall,ax⟩:=hrel;by_cases am:k < xs.length
   ·obtain rfl | ⟨j,rfl⟩:k = 0∨∃j,k = j+1:=by cases k with | zero=>exact .inl rfl | succ j=>exact .inr ⟨j,rfl⟩
    ·obtain ⟨b,o,ck,Fk,rfl,o9,hbs,hr,bm,hc⟩:=(Sl.ext (w':=wr) (A:=A) (c:=c) h ax).get am;obtain ⟨aq,su,b9,kP⟩:=vO hr;subst aq;obtain ⟨q0,q1⟩:=xN 2 hc;clear hc;simp only [Nat.zero_mul,Nat.add_zero] at q0 q1;have cF:=(Eo.out xs[0] (List.getElem_mem ..)).1;have cC:=(Eo.out xs[0] (List.getElem_mem ..)).2;cases h1:Cm xs[0].key <;> cases h2:AQ xs[0].value
     all_goals
      have hp:=bF (ok:=zX) (less:=zi) am;unfold zX at hp;rw [h1,h2] at hp;simp only [Bool.false_and,Bool.and_false,Bool.and_true,Bool.and_self] at hp;change rowAt zX zi xs _ = _ at hp;have H1:=I h1;have H2:=I h2
      first
       | have HN:=I (gq hall.out hp)
       | have HF:=I (wU (most:=6) am hp)
      clear h1 h2 hp;go_wp2_with fail
      refine aF _ U' U' (aj _) ?_
      repeat (first
       | (apply aG
          case hw=>rfl
          simp only [Act.put,pz])
       | (apply aH
          case hw=>rfl
          case h =>
           intro wq hq;have cN:=(aB hq).1;have lJ:=(aB hq).2;go_simp
           first
            | exact ⟨hq,rfl⟩
            | exact ⟨aQ hq _,rfl⟩
            | (first | (refine (qK xs[0].key _ cF).mono ?_;rw [H1.out];rintro e w2 ⟨rfl,ap⟩;exact ⟨rfl,aI hq ap⟩) | (refine (vH xs[0].value _ cC).mono ?_;rw [H2.out];rintro e w2 ⟨rfl,ap⟩;exact ⟨rfl,aI hq ap⟩))
            | (simp only [↓IntWalk.iteOmega];exact ⟨hq,rfl⟩)
          simp only [Act.put,pz]))
      refine aN ?_;intro wn hn;replace hn:=hn.out;go_wp2
      first
       | exact ⟨⟨0+1,J,N',HN.out,ah ax hn⟩,by simp [intOf];omega⟩
       | (go_ret;exact ⟨by unfold sD;rw [HF.out];rfl,ah ax hn⟩)
    ·obtain ⟨b,o,ck,Fk,rfl,o9,hbs,hr,bm,hc⟩:=(Sl.ext (w':=wr) (A:=A) (c:=c) h ax).get am;obtain ⟨aq,su,b9,kP⟩:=vO hr;subst aq;obtain ⟨q0,q1⟩:=xN 2 hc;clear hc;obtain ⟨b',o',TY,Xw,e,Ht,hbs',cJ,zQ,hc'⟩:=Sl.get (Sl.ext (w':=wr) (c:=c) h ax) (show j < xs.length by omega);obtain ⟨jU,abT,vC,rP⟩:=vO cJ;subst jU;obtain ⟨rfl,rfl⟩:b' = b/\o' = o:=by simpa using e.symm
     clear e;obtain ⟨p0,p1⟩:=xN 2 hc';clear hc';have qd:IntKind.i64.wrap (j:Int) = j:=IntWalk.i64_in _ J;have gp:j < xs.length:=J;have cF:=(Eo.out xs[j+1] (List.getElem_mem ..)).1;have cC:=(Eo.out xs[j+1] (List.getElem_mem ..)).2;cases h1:Cm xs[j+1].key <;> cases h2:AQ xs[j+1].value <;> cases h3:Op.bytesLess xs[j].key.toList xs[j+1].key.toList
     all_goals
      have hp:=yS (ok:=zX) (less:=zi) am;unfold zX zi at hp;rw [h1,h2,h3] at hp;simp only [Bool.false_and,Bool.and_false,Bool.and_true,Bool.and_self] at hp;change rowAt zX zi xs _ = _ at hp;have H1:=I h1;have H2:=I h2
      first
       | have HN:=I (gq hall.out hp)
       | have HF:=I (wU (most:=6) am hp)
      clear h1 h2 hp;go_wp2_with fail
      refine aF _ U' U' (aj _) ?_
      repeat (first
       | (apply aG
          case hw=>rfl
          simp only [Act.put,pz])
       | (apply aH
          case hw=>rfl
          case h =>
           intro wq hq;have cN:=(aB hq).1;have lJ:=(aB hq).2;go_simp
           first
            | exact ⟨hq,rfl⟩
            | exact ⟨aQ hq _,rfl⟩
            | (first | (refine (qK xs[j+1].key _ cF).mono ?_;rw [H1.out];rintro e w2 ⟨rfl,ap⟩;exact ⟨rfl,aI hq ap⟩) | (refine (vH xs[j+1].value _ cC).mono ?_;rw [H2.out];rintro e w2 ⟨rfl,ap⟩;exact ⟨rfl,aI hq ap⟩))
            | (simp only [↓IntWalk.iteOmega];exact ⟨hq,rfl⟩)
          simp only [Act.put,pz]))
      refine aN ?_;intro wn hn;replace hn:=hn.out;go_wp2
      first
       | exact ⟨⟨j+1+1,J,N',HN.out,ah ax hn⟩,by simp [intOf];omega⟩
       | (go_ret;exact ⟨by unfold sD;rw [HF.out];rfl,ah ax hn⟩)
   ·have bs:k = xs.length:=J;subst bs;have HF:=I (Jy hm hall.out);go_wp2;go_ret
    exact ⟨by unfold sD;rw [HF.out];rfl,ax⟩
 ·have HF:=I (Jz (ok:=zX) (less:=zi) hm);go_enter Tryz.func90,Tryz.ntmps90;go_wp2;go_ret
  exact ⟨by unfold sD;rw [HF.out];rfl,bc⟩
def pK {α:Type} (p:α->Bool):List α->Int
 | []=>-1
 | x :: xs=>if p x then 0 else if pK p xs < 0 then -1 else pK p xs+1
theorem F5 {α:Type} {p:α->Bool} : ∀{xs:List α},(∀x∈xs,p x = false)->pK p xs = -1
 | [],_=>rfl
 | x :: xs,h=>by
   have h1:=h x (List.mem_cons_self ..);have h2:=F5 (xs:=xs) λy hy=>h y (List.mem_cons_of_mem _ hy);simp [pK,h1,h2]
theorem Fj {α:Type} {p:α->Bool} : ∀{xs:List α} {k:Nat} (hk:k < xs.length),(∀x∈xs.take k,p x = false)->p xs[k] = true->pK p xs = k
 | x :: xs,0,_,_,h=>by simp at h;simp [pK,h]
 | x :: xs,k+1,hk,hb,h=>by
   have h1:=hb x S';have h2:=Fj (xs:=xs) (k:=k) Tx (λy hy=>hb y (by simp [hy])) Tl;simp only [pK,h1,h2];rw [if_neg S',if_neg J];omega
theorem yQ {α:Type} {p:α->Bool} {xs:List α} {k:Nat} (hk:k < xs.length) (h:∀x∈xs.take k,p x = false) (hx:p xs[k] = false):∀x∈xs.take (k+1),p x = false:=by
 rw [List.take_succ_eq_append_getElem hk];intro x hm;rcases List.mem_append.1 hm with hm | hm
 ·exact h x hm
 ·simp at hm;subst hm;exact hx
theorem Nc {α:Type} {p:α->Bool} : ∀(xs:List α),-1<=pK p xs/\pK p xs < xs.length
 | []=>by simp [pK]
 | x :: xs=>by
   have:=Nc (p:=p) xs;simp only [pK,List.length_cons];split
   ·omega
   ·split <;> omega
def iM (nm:ByteArray) (h:az):Bool:=lf h.name nm
theorem ae9 (x:az) (cs:List Value) (F:List Nat) (nm:ByteArray) (q:Nat) (w:World) (h:rd w x cs F) (hq:w.cell? ⟨q,0,none⟩ = some (.string nm)) (JT:q < w.heap.size) :
 Calls Tryz.prog 119 #[.agg cs.toArray,.pointer (some ⟨q,0,none⟩)] w λe w'=>e = .returned (.bool (iM nm x))/\Below w.heap.size w w':=by
 obtain ⟨_,_,_,_,rfl,rfl,⟨rfl,rfl,hname⟩,_,_,_,_,rfl,rfl,dO,_,_,_,_,rfl,rfl,⟨rfl,rfl,vg⟩,_,_,_,_,rfl,rfl,⟨rfl,rfl,b8⟩,_,_,_,_,rfl,rfl,⟨rfl,rfl,uI⟩,jq⟩:=h;obtain ⟨gu,gy,rfl,dO⟩:=jB dO;obtain ⟨kJ,kK,rfl,jq⟩:=jB jq;replace hname:=rV (s:=x.name) hname;replace dO:Sl _ x.labels gu gy _:=dO;replace vg:aR x.aw:=vg;replace b8:aR x.mem:=b8;replace uI:aR x.slots:=uI;replace jq:Sl _ x.aT kJ kK _:=jq;simp only [List.cons_append,List.nil_append];go_enter Tryz.func119,Tryz.ntmps119;go_wp2;go_ret
 exact ⟨rfl,ak (aj _) _⟩
theorem ajq (xs:List az) (A:Option Addr) (c:Nat) (F:List Nat) (nm:ByteArray) (q:Nat) (w:World) (h:Sl w xs A c F) (hq:w.cell? ⟨q,0,none⟩ = some (.string nm)) (JT:q < w.heap.size) (hl:(xs.length:Int)<=1048576) :
 Calls Tryz.prog 118 #[.slice A xs.length c,.func (.func 119) #[] #[.pointer (some ⟨q,0,none⟩)]] w λe w'=>e = .returned (.int .i64 (pK (iM nm) xs))/\Below w.heap.size w w':=by
 go_enter Tryz.func118,Tryz.ntmps118;go_wp2;go_loopw [5,8] (λ_ i wr=>∃k:Nat,k<=xs.length/\i = .int .i64 k/\Hid (∀x∈xs.take k,iM nm x = false)/\Below w.heap.size w wr) (λ_ i _=>xs.length - (intOf i).toNat)
 case atStart=>exact ⟨0,Nat.zero_le _,rfl,by show ∀_,_;simp,aj _⟩
 case round =>
  obtain ⟨k,hk,rfl,Hn,ax⟩:=hrel;by_cases am:k < xs.length
  ·obtain ⟨b,o,ck,Fk,rfl,o9,hbs,hr,bm,hc⟩:=(h.ext ax).get am;obtain ⟨gu,gy,jw,kJ,kK,qU,aq,rfl,hname,dO,vg,b8,uI,jq⟩:=iy hr;subst aq;obtain ⟨q0,q1,q2,q3,q4,q5⟩:=mN 6 hc;clear hc;have hqr:wr.cell? ⟨q,0,none⟩ = some (.string nm):=(by rw [<- hq];exact ax.cell (p:=⟨q,0,none⟩) JT);have alF:q < wr.heap.size:=Nat.lt_of_lt_of_le JT ax.size;cases hp:iM nm xs[k] with
   | false =>
     have HP:=I hp;clear hp;go_wp2_with (go_at_call 119;refine (ae9 xs[k] _ _ nm q _ hr hqr alF).mono ?_;rw [HP.out];rintro e w2 ⟨rfl,ap⟩)
     exact ⟨⟨k+1,J,N',yQ am Hn.out HP.out,ah ax ap⟩,by simp [intOf];omega⟩
   | true =>
     have HP:=I hp;clear hp;have HI:=I (Fj am Hn.out HP.out);go_wp2_with (go_at_call 119;refine (ae9 xs[k] _ _ nm q _ hr hqr alF).mono ?_;rw [HP.out];rintro e w2 ⟨rfl,ap⟩)
     go_ret
     exact ⟨by rw [HI.out];rfl,ah ax ap⟩
  ·have bs:k = xs.length:=J;subst bs;have hn:=Hn.out;rw [List.take_length] at hn;have HI:=I (F5 hn);clear hn;go_wp2;go_ret
   exact ⟨by rw [HI.out];rfl,ax⟩
theorem gK (x:aU) (cs:List Value) (F:List Nat) (nm:ByteArray) (w:World) (h:rd w x cs F) (hl:(x.aa.length:Int)<=1048576) :
 Calls Tryz.prog 71 #[.agg cs.toArray,.string nm] w λe w'=>e = .returned (.int .i64 (pK (iM nm) x.aa))/\Below w.heap.size w w':=by
 obtain ⟨_,_,_,_,rfl,rfl,bQ,_,_,_,_,rfl,rfl,dM,_,_,_,_,rfl,rfl,⟨rfl,rfl,hnext⟩,xM⟩:=h;obtain ⟨bG,bD,rfl,bQ⟩:=jB bQ;obtain ⟨dn,bW,rfl,dM⟩:=jB dM;have uJ:=xM;obtain ⟨rfl,rfl,aV,aP,aW⟩:=mg xM;replace bQ:Sl _ x.aa bG bD _:=bQ;replace dM:Sl _ x.O dn bW _:=dM;replace hnext:aR x.next:=hnext;replace aV:aR x.weights.pack:=aV;replace aP:aR x.weights.spread:=aP;replace aW:aR x.weights.soft:=aW;replace uJ:rd _ x.weights [.int .i64 x.weights.pack,.int .i64 x.weights.spread,.int .i64 x.weights.soft] _:=uJ;simp only [List.cons_append,List.nil_append];go_enter Tryz.func71,Tryz.ntmps71;go_wp2_with (go_at_call 118;refine (ajq x.aa _ _ _ nm _ _ (bQ.ext bc) S' S' hl).mono ?_;rintro e w2 ⟨rfl,ap⟩)
 go_ret
 exact ⟨rfl,bc⟩
theorem gQ (x:aU) (cs:List Value) (F:List Nat) (nm:ByteArray) (w:World) (h:rd w x cs F) (hl:(x.aa.length:Int)<=1048576) :
 Calls Tryz.prog 55 #[.agg cs.toArray,.string nm] w λe w'=>e = .returned (.int .i64 (pK (iM nm) x.aa))/\Below w.heap.size w w':=by
 obtain ⟨_,_,_,_,rfl,rfl,bQ,_,_,_,_,rfl,rfl,dM,_,_,_,_,rfl,rfl,⟨rfl,rfl,hnext⟩,xM⟩:=h;obtain ⟨bG,bD,rfl,bQ⟩:=jB bQ;obtain ⟨dn,bW,rfl,dM⟩:=jB dM;have uJ:=xM;obtain ⟨rfl,rfl,aV,aP,aW⟩:=mg xM;replace bQ:Sl _ x.aa bG bD _:=bQ;replace dM:Sl _ x.O dn bW _:=dM;replace hnext:aR x.next:=hnext;replace aV:aR x.weights.pack:=aV;replace aP:aR x.weights.spread:=aP;replace aW:aR x.weights.soft:=aW;replace uJ:rd _ x.weights [.int .i64 x.weights.pack,.int .i64 x.weights.spread,.int .i64 x.weights.soft] _:=uJ;simp only [List.cons_append,List.nil_append];go_enter Tryz.func55,Tryz.ntmps55;go_wp2;go_loop [5] (λi=>∃k:Nat,k<=x.aa.length/\i = .int .i64 k/\Hid (∀y∈x.aa.take k,iM nm y = false)) (λi=>x.aa.length - (intOf i).toNat)
 case atStart=>exact ⟨0,Nat.zero_le _,rfl,by show ∀_,_;simp⟩
 case round =>
  obtain ⟨k,hk,rfl,Hn⟩:=hrel;by_cases am:k < x.aa.length
  ·obtain ⟨b,o,ck,Fk,rfl,o9,hbs,hr,bm,hc⟩:=bQ.get am;obtain ⟨dU,dV,Ba,kY,kZ,NR,aq,rfl,hname1,jr,IQ,IU,KD,yO⟩:=iy hr;subst aq;obtain ⟨q0,q1,q2,q3,q4,q5⟩:=mN 6 hc;clear hc;have bN:b≠w.heap.size:=Nat.ne_of_lt hbs;cases hp:iM nm x.aa[k] with
   | false =>have HP:=I hp;have OR:(x.aa[k].name.toList == nm.toList) = false:=hp;clear hp;go_wp2;exact ⟨⟨k+1,J,N',yQ am Hn.out HP.out⟩,by simp [intOf];omega⟩
   | true =>have HP:=I hp;have OR:(x.aa[k].name.toList == nm.toList) = true:=hp;exact Nn
  ·have bs:k = x.aa.length:=J;exact M5
def CG (nm:ByteArray) (h:ag):Bool:=lf h.aS.name nm
theorem Hz (x:aU) (cs:List Value) (F:List Nat) (nm:ByteArray) (w:World) (h:rd w x cs F) (hl:(x.O.length:Int)<=1048576) :
 Calls Tryz.prog 23 #[.agg cs.toArray,.string nm] w λe w'=>e = .returned (.int .i64 (pK (CG nm) x.O))/\Below w.heap.size w w':=by
 obtain ⟨_,_,_,_,rfl,rfl,bQ,_,_,_,_,rfl,rfl,dM,_,_,_,_,rfl,rfl,⟨rfl,rfl,hnext⟩,xM⟩:=h;obtain ⟨bG,bD,rfl,bQ⟩:=jB bQ;obtain ⟨dn,bW,rfl,dM⟩:=jB dM;have uJ:=xM;obtain ⟨rfl,rfl,aV,aP,aW⟩:=mg xM;replace bQ:Sl _ x.aa bG bD _:=bQ;replace dM:Sl _ x.O dn bW _:=dM;replace hnext:aR x.next:=hnext;replace aV:aR x.weights.pack:=aV;replace aP:aR x.weights.spread:=aP;replace aW:aR x.weights.soft:=aW;replace uJ:rd _ x.weights [.int .i64 x.weights.pack,.int .i64 x.weights.spread,.int .i64 x.weights.soft] _:=uJ;simp only [List.cons_append,List.nil_append];go_enter Tryz.func23,Tryz.ntmps23;go_wp2;go_loop [5] (λi=>∃k:Nat,k<=x.O.length/\i = .int .i64 k/\Hid (∀y∈x.O.take k,CG nm y = false)) (λi=>x.O.length - (intOf i).toNat)
 case atStart=>exact ⟨0,Nat.zero_le _,rfl,by show ∀_,_;simp⟩
 case round =>
  obtain ⟨k,hk,rfl,Hn⟩:=hrel;by_cases am:k < x.O.length
  ·obtain ⟨b,o,ck,Fk,rfl,o9,hbs,hr,bm,hc⟩:=dM.get am;obtain ⟨pO,pR,EY,rH,rJ,He,kT,kU,yu,aq,rfl,Dq,yw,FW,FX,Dt,Az,qH,anH,afa⟩:=kE hr;subst aq;obtain ⟨q0,q1,q2,q3,q4,q5,q6,q7,q8⟩:=oY 9 hc;clear hc;have bN:b≠w.heap.size:=Nat.ne_of_lt hbs;cases hp:CG nm x.O[k] with
   | false =>have HP:=I hp;have OR:(x.O[k].aS.name.toList == nm.toList) = false:=hp;clear hp;go_wp2;exact ⟨⟨k+1,J,N',yQ am Hn.out HP.out⟩,by simp [intOf];omega⟩
   | true =>have HP:=I hp;have OR:(x.O[k].aS.name.toList == nm.toList) = true:=hp;exact Nn
  ·have bs:k = x.O.length:=J;exact M5
theorem BH {xs:List iU} (h:(kL iU.wt xs:Int)<=1048576):((xs.length:Int)<=1048576)/\∀l∈xs,(l.key.size:Int)<=1048576/\(l.value.size:Int)<=1048576:=by
 refine ⟨by have:=gJ iU.wt xs;omega,λl hl=>?_⟩;have h1:=Bq (f:=iU.wt) hl;have e:iU.wt l = l.key.size+l.value.size:=rfl;omega
theorem FQ {xs:List bH} (h:(kL bH.wt xs:Int)<=1048576):((xs.length:Int)<=1048576)/\∀l∈xs,(l.key.size:Int)<=1048576/\(l.value.size:Int)<=1048576:=by
 refine ⟨by have:=gJ bH.wt xs;omega,λl hl=>?_⟩;have h1:=Bq (f:=bH.wt) hl;have e:bH.wt l = l.key.size+l.value.size:=rfl;omega
theorem yg {α:Type} (p:α->Bool) (xs:List α):pK p xs = -1∨∃k:Nat,k < xs.length/\pK p xs = k:=by
 have:=Nc (p:=p) xs;by_cases h:pK p xs < 0
 ·left;omega
 ·right;exact ⟨(pK p xs).toNat,J,J⟩
theorem Aa {xs:List aE} (h:(kL aE.wt xs:Int)<=1048576):((xs.length:Int)<=1048576)/\(∀l∈xs,(l.key.size:Int)<=1048576/\(l.values.length:Int)<=1048576/\∀v∈l.values,(v.size:Int)<=1048576):=by
 refine ⟨by have:=gJ aE.wt xs;omega,λl hl=>?_⟩;have h1:=Bq (f:=aE.wt) hl;have e:aE.wt l = l.key.size+It l.values:=rfl;have h2:=gJ ByteArray.size l.values;unfold It at e;refine ⟨J,J,λv hv=>?_⟩;have h3:=Bq (f:=ByteArray.size) hv;omega
theorem sW {xs:List ao} (h:(kL ao.wt xs:Int)<=1048576):((xs.length:Int)<=1048576)/\∀l∈xs,(l.key.size:Int)<=1048576/\(l.value.size:Int)<=1048576:=by
 refine ⟨by have:=gJ ao.wt xs;omega,λl hl=>?_⟩;have h1:=Bq (f:=ao.wt) hl;have e:ao.wt l = l.key.size+l.value.size:=rfl;omega
end Go.Proofs.YtjahcnjmjahbaaaGreat
