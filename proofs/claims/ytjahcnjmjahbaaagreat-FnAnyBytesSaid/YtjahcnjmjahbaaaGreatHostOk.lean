/- HostOk, of the program and of the reference. No condition. -/
import Derived.Test.YtjahcnjmjahbaaaGreatLabelsOk
import Derived.Test.YtjahcnjmjahbaaaGreatTaintsOk
import Derived.Test.YtjahcnjmjahbaaaGreatNeedOk
import Derived.Test.YtjahcnjmjahbaaaGreatValCmp
namespace Go.Proofs.YtjahcnjmjahbaaaGreat
open Go.ChangeShapes Go.WideShapes Go.ChangeAt Go.RowKit
set_option linter.unusedVariables false
set_option linter.unusedSimpArgs false
set_option maxHeartbeats 2000000
set_option maxRecDepth 100000
def Aj (x:az):Bool:=Qs x.name&&sD x.labels&&La x.aT&&(decide (0<=x.aw)&&decide (0<=x.mem))&&(decide (1<=x.slots)&&decide (x.slots<=20))
theorem sQ (x:az) (cs:List Value) (F:List Nat) (w:World) (h:rd w x cs F) (pg:(x.name.size:Int)<=1048576) (dq:(x.labels.length:Int)<=1048576) (di:∀l∈x.labels,(l.key.size:Int)<=1048576/\(l.value.size:Int)<=1048576) (fu:(x.aT.length:Int)<=1048576) (dr:∀l∈x.aT,(l.key.size:Int)<=1048576/\(l.value.size:Int)<=1048576) :
 Calls Tryz.prog 36 #[.agg cs.toArray] w λe w'=>e = .returned (.bool (Aj x))/\Below w.heap.size w w':=by
 have Zb:=I di;have Ux:=I dr;clear di dr;have hr:=h;obtain ⟨gu,gy,jw,kJ,kK,qU,aq,hF,hname,dO,vg,b8,uI,jq⟩:=iy hr;subst aq;clear hr hF;go_enter Tryz.func36,Tryz.ntmps36
 go_wp2_with (first
  | (go_at_call 75;refine (Ro x.name _ pg).mono ?_;rintro e w2 ⟨rfl,ap⟩;obtain ⟨bX,cE⟩:=ay ap;have cr:w.heap.size < w2.heap.size:=(sq ap.size))
  | (go_at_call 76;refine (Jv x.labels _ _ _ _ _ (dO.ext bc) rfl dq Zb.out).mono ?_;rintro e w3 ⟨rfl,ba⟩;obtain ⟨cK,hf3⟩:=ay ba;have eN:w.heap.size < w3.heap.size:=(sq ba.size))
  | (go_at_call 77;refine (ZK x.aT _ _ _ _ _ (jq.ext bc) rfl fu Ux.out).mono ?_;rintro e w4 ⟨rfl,bC⟩;obtain ⟨ej,hf4⟩:=ay bC;have Wy:w.heap.size < w4.heap.size:=(sq bC.size))
  | go_in)
 all_goals first
  | (go_ret;refine ⟨?_,bc⟩;refine congrArg (λb=>Ending.returned (Value.bool b)) ?_;show (_:Bool) = _;(try clear bX cE);(try clear cK hf3);(try clear ej hf4);unfold Aj;first | (simp [*];done) | (simp [*];omega) | (simp_all;done) | (simp_all;omega))
  | skip
theorem rO (x:az) (cs:List Value) (F:List Nat) (w:World) (h:rd w x cs F) (pg:(x.name.size:Int)<=1048576) (dq:(x.labels.length:Int)<=1048576) (di:∀l∈x.labels,(l.key.size:Int)<=1048576/\(l.value.size:Int)<=1048576) (fu:(x.aT.length:Int)<=1048576) (dr:∀l∈x.aT,(l.key.size:Int)<=1048576/\(l.value.size:Int)<=1048576) :
 Calls Tryz.prog 56 #[.agg cs.toArray] w λe w'=>e = .returned (.bool (Aj x))/\Below w.heap.size w w':=by
 have Zb:=I di;have Ux:=I dr;clear di dr;have hr:=h;obtain ⟨gu,gy,jw,kJ,kK,qU,aq,hF,hname,dO,vg,b8,uI,jq⟩:=iy hr;subst aq;clear hr hF;go_enter Tryz.func56,Tryz.ntmps56
 go_wp2_with (first
  | (go_at_call 89;refine (Rq x.name _ pg).mono ?_;rintro e w2 ⟨rfl,ap⟩;obtain ⟨bX,cE⟩:=ay ap;have cr:w.heap.size < w2.heap.size:=(sq ap.size))
  | (go_at_call 90;refine (Jw x.labels _ _ _ _ _ (dO.ext bc) rfl dq Zb.out).mono ?_;rintro e w3 ⟨rfl,ba⟩;obtain ⟨cK,hf3⟩:=ay ba;have eN:w.heap.size < w3.heap.size:=(sq ba.size))
  | (go_at_call 93;refine (ZL x.aT _ _ _ _ _ (jq.ext bc) rfl fu Ux.out).mono ?_;rintro e w4 ⟨rfl,bC⟩;obtain ⟨ej,hf4⟩:=ay bC;have Wy:w.heap.size < w4.heap.size:=(sq bC.size))
  | go_in)
 all_goals first
  | (go_ret;refine ⟨?_,bc⟩;refine congrArg (λb=>Ending.returned (Value.bool b)) ?_;show (_:Bool) = _;(try clear bX cE);(try clear cK hf3);(try clear ej hf4);unfold Aj;first | (simp [*];done) | (simp [*];omega) | (simp_all;done) | (simp_all;omega))
  | skip
theorem tY (x:az) (cs:List Value) (F:List Nat) (w:World) (h:rd w x cs F) (hw:(x.wt:Int)<=1048576) :
 Calls Tryz.prog 36 #[.agg cs.toArray] w λe w'=>e = .returned (.bool (Aj x))/\Below w.heap.size w w':=by
 have fv:x.wt = x.name.size+kL ao.wt x.labels+kL iU.wt x.aT:=rfl;obtain ⟨dq,di⟩:=sW (xs:=x.labels) J;obtain ⟨fu,dr⟩:=BH (xs:=x.aT) J;exact sQ x cs F w h J dq di fu dr
theorem tZ (x:az) (cs:List Value) (F:List Nat) (w:World) (h:rd w x cs F) (hw:(x.wt:Int)<=1048576) :
 Calls Tryz.prog 56 #[.agg cs.toArray] w λe w'=>e = .returned (.bool (Aj x))/\Below w.heap.size w w':=by
 have fv:x.wt = x.name.size+kL ao.wt x.labels+kL iU.wt x.aT:=rfl;obtain ⟨dq,di⟩:=sW (xs:=x.labels) J;obtain ⟨fu,dr⟩:=BH (xs:=x.aT) J;exact rO x cs F w h J dq di fu dr
def kw (xs:List aE):Bool:=mw uh nD 4 xs
theorem WI (xs:List aE) (A:Option Addr) (n c:Nat) (F:List Nat) (w:World) (h:Sl w xs A c F) (hn:n = xs.length) (hl:(xs.length:Int)<=1048576) (cR:(∀l∈xs,(l.key.size:Int)<=1048576/\(l.values.length:Int)<=1048576/\∀v∈l.values,(v.size:Int)<=1048576)) :
 Calls Tryz.prog 78 #[.slice A n c] w λe w'=>e = .returned (.bool (kw xs))/\Below w.heap.size w w':=by
 subst hn;have Eo:=I cR;clear cR;go_enter Tryz.func78,Tryz.ntmps78;go_wp2_with fail
 go_loopw [7] (λi wr=>∃k:Nat,k<=xs.length/\i = .int .i64 k/\Hid (∀j,j < k->rowAt uh nD xs j = true)/\Below w.heap.size w wr) (λi _=>xs.length - (intOf i).toNat)
 case atStart=>exact ⟨0,Nat.zero_le _,rfl,(λj hj=>by omega),bc⟩
 case round =>
  obtain ⟨k,hk,rfl,hall,ax⟩:=hrel;by_cases am:k < xs.length
  ·obtain rfl | ⟨j,rfl⟩:k = 0∨∃j,k = j+1:=by cases k with | zero=>exact .inl rfl | succ j=>exact .inr ⟨j,rfl⟩
   ·obtain ⟨b,o,ck,Fk,rfl,o9,hbs,hr,bm,hc⟩:=(Sl.ext (w':=wr) (A:=A) (c:=c) h ax).get am;have cH:=hr;obtain ⟨jy,ji,Bo,aq,su,b9,hop,kV⟩:=og hr;subst aq;obtain ⟨q0,q1,q2⟩:=iX 3 hc;clear hc;simp only [Nat.zero_mul,Nat.add_zero] at q0 q1 q2;obtain ⟨cF,cC,hs3⟩:=Eo.out xs[0] (List.getElem_mem ..);cases h1:uh xs[0]
    all_goals
     have hp:=bF (ok:=uh) (less:=nD) am;rw [h1] at hp;try simp only [Bool.false_and,Bool.and_false,Bool.and_true,Bool.and_self] at hp
     change rowAt uh nD xs _ = _ at hp
     have hK:∀wq,Below wr.heap.size wr wq->Calls Tryz.prog 127 #[.agg #[.string xs[0].key,.int .i64 xs[0].op,.slice jy xs[0].values.length ji]] wq λe w'=>e = .returned (.bool (uh xs[0]))/\Below wq.heap.size wq w' :=
      λwq hq=>Rw xs[0] _ _ _ (aJ cH hq) cF cC hs3
     rw [h1] at hK;have SR:=I hK;clear hK
     first
      | have HN:=I (gq hall.out hp)
      | have HF:=I (wU (most:=4) am hp)
     clear h1 hp;go_wp2_with fail
     refine aF _ U' U' (aj _) ?_
     repeat ((first | refine aG J' ?_ | refine aH _ J' wV ?_);simp only [Act.put,pz])
     refine aN ?_;intro wn hn;replace hn:=hn.out;go_wp2
     first
      | exact ⟨⟨0+1,J,N',HN.out,ah (ak ax _) hn⟩,by simp [intOf];omega⟩
      | (go_ret;exact ⟨by unfold kw;rw [HF.out];rfl,ah (ak ax _) hn⟩)
   ·obtain ⟨b,o,ck,Fk,rfl,o9,hbs,hr,bm,hc⟩:=(Sl.ext (w':=wr) (A:=A) (c:=c) h ax).get am;have cH:=hr;obtain ⟨jy,ji,Bo,aq,su,b9,hop,kV⟩:=og hr;subst aq;obtain ⟨q0,q1,q2⟩:=iX 3 hc;clear hc;obtain ⟨b',o',TY,Xw,e,Ht,hbs',cJ,zQ,hc'⟩:=Sl.get (Sl.ext (w':=wr) (c:=c) h ax) (show j < xs.length by omega);have QS:=cJ;obtain ⟨qO,qP,KL,jU,abT,vC,hop2,zS⟩:=og cJ;subst jU;obtain ⟨rfl,rfl⟩:b' = b/\o' = o:=by simpa using e.symm
    clear e;obtain ⟨p0,p1,p2⟩:=iX 3 hc';clear hc';have qd:IntKind.i64.wrap (j:Int) = j:=IntWalk.i64_in _ J;have gp:j < xs.length:=J;obtain ⟨Ab,oz,x5⟩:=Eo.out xs[j] (List.getElem_mem ..);obtain ⟨cF,cC,hs3⟩:=Eo.out xs[j+1] (List.getElem_mem ..);cases h1:uh xs[j+1] <;> cases h3:nD xs[j] xs[j+1]
    all_goals
     have hp:=yS (ok:=uh) (less:=nD) am;rw [h1,h3] at hp;try simp only [Bool.false_and,Bool.and_false,Bool.and_true,Bool.and_self] at hp
     change rowAt uh nD xs _ = _ at hp
     have hK:∀wq,Below wr.heap.size wr wq->Calls Tryz.prog 127 #[.agg #[.string xs[j+1].key,.int .i64 xs[j+1].op,.slice jy xs[j+1].values.length ji]] wq λe w'=>e = .returned (.bool (uh xs[j+1]))/\Below wq.heap.size wq w' :=
      λwq hq=>Rw xs[j+1] _ _ _ (aJ cH hq) cF cC hs3
     rw [h1] at hK;have SR:=I hK;clear hK
     first
      | have HN:=I (gq hall.out hp)
      | have HF:=I (wU (most:=4) am hp)
     have hC:∀wq,Below wr.heap.size wr wq->Calls Tryz.prog 128 #[.agg #[.string xs[j].key,.int .i64 xs[j].op,.slice qO xs[j].values.length qP],.agg #[.string xs[j+1].key,.int .i64 xs[j+1].op,.slice jy xs[j+1].values.length ji]] wq λe w'=>e = .returned (.bool (nD xs[j] xs[j+1]))/\Below wq.heap.size wq w' :=
      λwq hq=>ail xs[j] xs[j+1] _ _ _ _ _ (aJ QS hq) (aJ cH hq) oz cC
     rw [h3] at hC;have nx:=I hC;clear hC;clear h1 hp;go_wp2_with fail
     refine aF _ U' U' (aj _) ?_
     repeat ((first | refine aG J' ?_ | refine aH _ J' wV ?_);simp only [Act.put,pz])
     refine aN ?_;intro wn hn;replace hn:=hn.out;go_wp2
     first
      | exact ⟨⟨j+1+1,J,N',HN.out,ah (ak ax _) hn⟩,by simp [intOf];omega⟩
      | (go_ret;exact ⟨by unfold kw;rw [HF.out];rfl,ah (ak ax _) hn⟩)
  ·have bs:k = xs.length:=J;subst bs;by_cases hm:(xs.length:Int)<=4
   ·have HF:=I (Jy hm hall.out);go_wp2;go_ret
    exact ⟨by unfold kw;rw [HF.out];first | rfl | simp [hm],ax⟩
   ·have HF:=I (Jz (ok:=uh) (less:=nD) hm);go_wp2;go_ret
    exact ⟨by unfold kw;rw [HF.out];first | rfl | simp [hm],ax⟩
theorem WJ (xs:List aE) (A:Option Addr) (n c:Nat) (F:List Nat) (w:World) (h:Sl w xs A c F) (hn:n = xs.length) (hl:(xs.length:Int)<=1048576) (cR:(∀l∈xs,(l.key.size:Int)<=1048576/\(l.values.length:Int)<=1048576/\∀v∈l.values,(v.size:Int)<=1048576)) :
 Calls Tryz.prog 91 #[.slice A n c] w λe w'=>e = .returned (.bool (kw xs))/\Below w.heap.size w w':=by
 subst hn;have Eo:=I cR;clear cR;by_cases hm:(xs.length:Int)<=4
 ·go_enter Tryz.func91,Tryz.ntmps91;go_wp2_with fail
  go_loopw [3] (λi wr=>∃k:Nat,k<=xs.length/\i = .int .i64 k/\Hid (∀j,j < k->rowAt uh nD xs j = true)/\Below w.heap.size w wr) (λi _=>xs.length - (intOf i).toNat)
  case atStart=>exact ⟨0,Nat.zero_le _,rfl,(λj hj=>by omega),bc⟩
  case round =>
   obtain ⟨k,hk,rfl,hall,ax⟩:=hrel;by_cases am:k < xs.length
   ·obtain rfl | ⟨j,rfl⟩:k = 0∨∃j,k = j+1:=by cases k with | zero=>exact .inl rfl | succ j=>exact .inr ⟨j,rfl⟩
    ·obtain ⟨b,o,ck,Fk,rfl,o9,hbs,hr,bm,hc⟩:=(Sl.ext (w':=wr) (A:=A) (c:=c) h ax).get am;have cH:=hr;obtain ⟨jy,ji,Bo,aq,su,b9,hop,kV⟩:=og hr;subst aq;obtain ⟨q0,q1,q2⟩:=iX 3 hc;clear hc;simp only [Nat.zero_mul,Nat.add_zero] at q0 q1 q2;obtain ⟨cF,cC,hs3⟩:=Eo.out xs[0] (List.getElem_mem ..);cases h1:uh xs[0]
     all_goals
      have hp:=bF (ok:=uh) (less:=nD) am;rw [h1] at hp;try simp only [Bool.false_and,Bool.and_false,Bool.and_true,Bool.and_self] at hp
      change rowAt uh nD xs _ = _ at hp
      have hK:∀wq,Below wr.heap.size wr wq->Calls Tryz.prog 138 #[.agg #[.string xs[0].key,.int .i64 xs[0].op,.slice jy xs[0].values.length ji]] wq λe w'=>e = .returned (.bool (uh xs[0]))/\Below wq.heap.size wq w' :=
       λwq hq=>Rx xs[0] _ _ _ (aJ cH hq) cF cC hs3
      rw [h1] at hK;have SR:=I hK;clear hK
      first
       | have HN:=I (gq hall.out hp)
       | have HF:=I (wU (most:=4) am hp)
      clear h1 hp;go_wp2_with fail
      refine aF _ U' U' (aj _) ?_
      repeat ((first | refine aG J' ?_ | refine aH _ J' wV ?_);simp only [Act.put,pz])
      refine aN ?_;intro wn hn;replace hn:=hn.out;go_wp2
      first
       | exact ⟨⟨0+1,J,N',HN.out,ah ax hn⟩,by simp [intOf];omega⟩
       | (go_ret;exact ⟨by unfold kw;rw [HF.out];rfl,ah ax hn⟩)
    ·obtain ⟨b,o,ck,Fk,rfl,o9,hbs,hr,bm,hc⟩:=(Sl.ext (w':=wr) (A:=A) (c:=c) h ax).get am;have cH:=hr;obtain ⟨jy,ji,Bo,aq,su,b9,hop,kV⟩:=og hr;subst aq;obtain ⟨q0,q1,q2⟩:=iX 3 hc;clear hc;obtain ⟨b',o',TY,Xw,e,Ht,hbs',cJ,zQ,hc'⟩:=Sl.get (Sl.ext (w':=wr) (c:=c) h ax) (show j < xs.length by omega);have QS:=cJ;obtain ⟨qO,qP,KL,jU,abT,vC,hop2,zS⟩:=og cJ;subst jU;obtain ⟨rfl,rfl⟩:b' = b/\o' = o:=by simpa using e.symm
     clear e;obtain ⟨p0,p1,p2⟩:=iX 3 hc';clear hc';have qd:IntKind.i64.wrap (j:Int) = j:=IntWalk.i64_in _ J;have gp:j < xs.length:=J;obtain ⟨Ab,oz,x5⟩:=Eo.out xs[j] (List.getElem_mem ..);obtain ⟨cF,cC,hs3⟩:=Eo.out xs[j+1] (List.getElem_mem ..);cases h1:uh xs[j+1] <;> cases h3:nD xs[j] xs[j+1]
     all_goals
      have hp:=yS (ok:=uh) (less:=nD) am;rw [h1,h3] at hp;try simp only [Bool.false_and,Bool.and_false,Bool.and_true,Bool.and_self] at hp
      change rowAt uh nD xs _ = _ at hp
      have hK:∀wq,Below wr.heap.size wr wq->Calls Tryz.prog 138 #[.agg #[.string xs[j+1].key,.int .i64 xs[j+1].op,.slice jy xs[j+1].values.length ji]] wq λe w'=>e = .returned (.bool (uh xs[j+1]))/\Below wq.heap.size wq w' :=
       λwq hq=>Rx xs[j+1] _ _ _ (aJ cH hq) cF cC hs3
      rw [h1] at hK;have SR:=I hK;clear hK
      first
       | have HN:=I (gq hall.out hp)
       | have HF:=I (wU (most:=4) am hp)
      have hC:∀wq,Below wr.heap.size wr wq->Calls Tryz.prog 80 #[.agg #[.string xs[j].key,.int .i64 xs[j].op,.slice qO xs[j].values.length qP],.agg #[.string xs[j+1].key,.int .i64 xs[j+1].op,.slice jy xs[j+1].values.length ji]] wq λe w'=>e = .returned (.bool (nD xs[j] xs[j+1]))/\Below wq.heap.size wq w' :=
       λwq hq=>TN xs[j] xs[j+1] _ _ _ _ _ (aJ QS hq) (aJ cH hq) oz cC
      rw [h3] at hC;have nx:=I hC;clear hC;clear h1 hp;go_wp2_with fail
      refine aF _ U' U' (aj _) ?_
      repeat ((first | refine aG J' ?_ | refine aH _ J' wV ?_);simp only [Act.put,pz])
      refine aN ?_;intro wn hn;replace hn:=hn.out;go_wp2
      first
       | exact ⟨⟨j+1+1,J,N',HN.out,ah ax hn⟩,by simp [intOf];omega⟩
       | (go_ret;exact ⟨by unfold kw;rw [HF.out];rfl,ah ax hn⟩)
   ·have bs:k = xs.length:=J;subst bs;have HF:=I (Jy hm hall.out);go_wp2;go_ret
    exact ⟨by unfold kw;rw [HF.out];rfl,ax⟩
 ·have HF:=I (Jz (ok:=uh) (less:=nD) hm);go_enter Tryz.func91,Tryz.ntmps91;go_wp2;go_ret
  exact ⟨by unfold kw;rw [HF.out];rfl,bc⟩
end Go.Proofs.YtjahcnjmjahbaaaGreat
