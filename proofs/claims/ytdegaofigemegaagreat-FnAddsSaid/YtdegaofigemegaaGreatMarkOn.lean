/- MarkOn, of the program and of the reference. No condition. -/
import Derived.Test.YtdegaofigemegaaGreatUntolI
import Derived.Test.YtdegaofigemegaaGreatTaintsOk
import Derived.Test.YtdegaofigemegaaGreatNeedLess
namespace Go.Proofs.YtdegaofigemegaaGreat
open Go.ChangeShapes Go.WideShapes Go.ChangeAt Go.RowKit
set_option linter.unusedVariables false
set_option linter.unusedSimpArgs false
set_option maxHeartbeats 4000000
set_option maxRecDepth 100000
def uH (nm:ByteArray) (x:aU) (p:nI):Int :=
 if zL x.weights.pack x.weights.spread x.weights.soft = true then x.weights.pack * OT nm x p+x.weights.spread * EF nm x+x.weights.soft * Rt nm x p else 0
theorem adN (nm:ByteArray) (x:aU) (p:nI):0<=Rt nm x p/\Rt nm x p<=100:=by
 unfold Rt;split
 ·omega
 ·split <;> omega
theorem PX {a b:Int} (ha:0<=a/\a<=10) (hb:0<=b/\b<=100):0<=a * b/\a * b<=1000:=by
 refine ⟨Int.mul_nonneg ha.1 hb.1,?_⟩;have h1:a * b<=10 * b:=Int.mul_le_mul_of_nonneg_right ha.2 hb.1;omega
theorem XO {p s f:Int} (h:zL p s f = true):(0<=p/\p<=10)/\(0<=s/\s<=10)/\(0<=f/\f<=10):=by
 unfold zL at h;exact yz
theorem vY {n:Int} (h:0<=n/\n<=3000):Value.int .i64 (IntKind.i64.wrap n) = Value.int .i64 n:=by
 have e:IntKind.i64.wrap n = n:=by rw [IntKind.wrap_i64];omega
 rw [e]
theorem Kq (x:aU) (p:nI) (cs ps:List Value) (F G:List Nat) (nm:ByteArray) (w:World) (h:rd w x cs F) (h':rd w p ps G) (hw:(x.wt:Int)<=1048576) (kv:(p.wt:Int)<=1048576) :
 Calls Tryz.prog 163 #[.agg cs.toArray,.string nm,.agg ps.toArray] w λe w'=>e = .returned (.int .i64 (uH nm x p))/\Below w.heap.size w w':=by
 have ZN:=I hw;have Uc:=I kv;clear hw kv;have hr:=h;have dE:=h';obtain ⟨bG,bD,fQ,dn,bW,jg,ar,hF,bQ,dM,hnext,aV,aP,aW⟩:=aO hr;obtain ⟨bY,bZ,iq,eU,eX,jV,bg,bn,dK,jU,hG,jW,dA,kQ,lg,lG,iO,bK⟩:=dL dE;subst ar jU;clear hF hG hr dE;cases hR:zL x.weights.pack x.weights.spread x.weights.soft with
 | false =>
   have HF:=I (show uH nm x p = 0 by unfold uH;rw [if_neg (by rw [hR];simp)]);have HR:=I hR;clear hR;go_enter Tryz.func163,Tryz.ntmps163;go_wp2_with fail
   refine (pW _ _ _ _).mono ?_;rw [HR.out];rintro e w2 ⟨rfl,am⟩;exact fg
 | true =>
   have BM:uH nm x p = x.weights.pack * OT nm x p+x.weights.spread * EF nm x+x.weights.soft * Rt nm x p:=(by unfold uH;rw [if_pos hR]);obtain ⟨g1,g2,g3⟩:=XO hR;have HR:=I hR;clear hR;obtain ⟨S1,me⟩:∃S,OT nm x p = S:=⟨_,rfl⟩;obtain ⟨S2,bS⟩:∃S,EF nm x = S:=⟨_,rfl⟩;obtain ⟨S3,cG⟩:∃S,Rt nm x p = S:=⟨_,rfl⟩;have r1:=adO nm x p;have r2:=ZO nm x;have r3:=adN nm x p;rw [me] at r1 BM;rw [bS] at r2 BM;rw [cG] at r3 BM;have m1:=PX g1 r1;have m2:=PX g2 r2;have m3:=PX g3 r3;have e1:=vY (n:=x.weights.pack * S1) J;have e2:=vY (n:=x.weights.spread * S2) J;have e3:=vY (n:=x.weights.soft * S3) J;have e4:=vY (n:=x.weights.pack * S1+x.weights.spread * S2) J;have e5:=vY (n:=x.weights.pack * S1+x.weights.spread * S2+x.weights.soft * S3) J;have HF:=I BM;have H1:=I me;have H2:=I bS;have H3:=I cG;clear BM me bS cG m1 m2 m3;go_enter Tryz.func163,Tryz.ntmps163;go_wp2_with fail
   refine (pW _ _ _ _).mono ?_;rw [HR.out];rintro e w2 ⟨rfl,am⟩;obtain ⟨bM,cB⟩:=ay am;have ca:w.heap.size < w2.heap.size:=(sq am.size);have rj:w.heap.size+1 < w2.heap.size:=(sq am.size);try (have Bg:w.heap.size+1+1 < w2.heap.size:=sq am.size)
   go_wp2_with fail
   refine aF _ U' U' (aj _) ?_
   repeat (first
    | (apply aG
       case hw=>rfl
       simp only [Act.put,pz])
    | (apply aH
       case hw=>rfl
       case h =>
        intro wq hq;have et:=(aB hq).1;have lJ:=(aB hq).2;go_simp
        first
         | exact ⟨hq,rfl⟩
         | exact ⟨aQ hq _,rfl⟩
         | (first | (refine (Zz x p _ _ _ _ nm _ (aJ h (ah bJ hq)) (aJ h' (ah bJ hq)) ZN.out Uc.out).mono ?_;rw [H1.out];rintro e wz ⟨rfl,nV⟩;exact ⟨rfl,aI hq nV⟩) | (refine (aey x p _ _ _ _ nm _ (aJ h (ah bJ hq)) (aJ h' (ah bJ hq)) ZN.out Uc.out).mono ?_;rw [H2.out];rintro e wz ⟨rfl,nV⟩;exact ⟨rfl,aI hq nV⟩) | (refine (ZI x p _ _ _ _ nm _ (aJ h (ah bJ hq)) (aJ h' (ah bJ hq)) ZN.out Uc.out).mono ?_;rw [H3.out];rintro e wz ⟨rfl,nV⟩;exact ⟨rfl,aI hq nV⟩))
         | (simp only [↓IntWalk.iteOmega];exact ⟨hq,rfl⟩)
       simp only [Act.put,pz]))
   refine aN ?_;intro wn hn;replace hn:=hn.out;exact Dz
def Aj (x:ba):Bool:=Qs x.name&&sD x.labels&&La x.aT&&(decide (0<=x.aq)&&decide (0<=x.mem))&&(decide (1<=x.slots)&&decide (x.slots<=20))
theorem sQ (x:ba) (cs:List Value) (F:List Nat) (w:World) (h:rd w x cs F) (xt:(x.name.size:Int)<=1048576) (eZ:(x.labels.length:Int)<=1048576) (fG:∀l∈x.labels,(l.key.size:Int)<=1048576/\(l.value.size:Int)<=1048576) (gg:(x.aT.length:Int)<=1048576) (i7:∀l∈x.aT,(l.key.size:Int)<=1048576/\(l.value.size:Int)<=1048576) :
 Calls Tryz.prog 34 #[.agg cs.toArray] w λe w'=>e = .returned (.bool (Aj x))/\Below w.heap.size w w':=by
 have Zb:=I fG;have Ux:=I i7;clear fG i7;have hr:=h;obtain ⟨gu,gy,jw,kJ,kK,qU,ar,hF,hname,dO,vg,b8,uI,jq⟩:=iy hr;subst ar;clear hr hF;go_enter Tryz.func34,Tryz.ntmps34
 go_wp2_with (first
  | (go_at_call 64;refine (Ro x.name _ xt).mono ?_;rintro e w2 ⟨rfl,am⟩;obtain ⟨bM,cB⟩:=ay am;have ca:w.heap.size < w2.heap.size:=(sq am.size))
  | (go_at_call 65;refine (Jv x.labels _ _ _ _ _ (dO.ext bJ) rfl eZ Zb.out).mono ?_;rintro e w3 ⟨rfl,az⟩;obtain ⟨cw,hf3⟩:=ay az;have eB:w.heap.size < w3.heap.size:=(sq az.size))
  | (go_at_call 66;refine (ZK x.aT _ _ _ _ _ (jq.ext bJ) rfl gg Ux.out).mono ?_;rintro e w4 ⟨rfl,bm⟩;obtain ⟨ee,hf4⟩:=ay bm;have Wy:w.heap.size < w4.heap.size:=(sq bm.size))
  | go_in)
 all_goals first
  | (go_ret;refine ⟨?_,bJ⟩;refine congrArg (λb=>Ending.returned (Value.bool b)) ?_;show (_:Bool) = _;(try clear bM cB);(try clear cw hf3);(try clear ee hf4);unfold Aj;first | (simp [*];done) | (simp [*];omega) | (simp_all;done) | (simp_all;omega))
  | skip
theorem rO (x:ba) (cs:List Value) (F:List Nat) (w:World) (h:rd w x cs F) (xt:(x.name.size:Int)<=1048576) (eZ:(x.labels.length:Int)<=1048576) (fG:∀l∈x.labels,(l.key.size:Int)<=1048576/\(l.value.size:Int)<=1048576) (gg:(x.aT.length:Int)<=1048576) (i7:∀l∈x.aT,(l.key.size:Int)<=1048576/\(l.value.size:Int)<=1048576) :
 Calls Tryz.prog 88 #[.agg cs.toArray] w λe w'=>e = .returned (.bool (Aj x))/\Below w.heap.size w w':=by
 have Zb:=I fG;have Ux:=I i7;clear fG i7;have hr:=h;obtain ⟨gu,gy,jw,kJ,kK,qU,ar,hF,hname,dO,vg,b8,uI,jq⟩:=iy hr;subst ar;clear hr hF;go_enter Tryz.func88,Tryz.ntmps88
 go_wp2_with (first
  | (go_at_call 136;refine (Rq x.name _ xt).mono ?_;rintro e w2 ⟨rfl,am⟩;obtain ⟨bM,cB⟩:=ay am;have ca:w.heap.size < w2.heap.size:=(sq am.size))
  | (go_at_call 137;refine (Jw x.labels _ _ _ _ _ (dO.ext bJ) rfl eZ Zb.out).mono ?_;rintro e w3 ⟨rfl,az⟩;obtain ⟨cw,hf3⟩:=ay az;have eB:w.heap.size < w3.heap.size:=(sq az.size))
  | (go_at_call 140;refine (ZL x.aT _ _ _ _ _ (jq.ext bJ) rfl gg Ux.out).mono ?_;rintro e w4 ⟨rfl,bm⟩;obtain ⟨ee,hf4⟩:=ay bm;have Wy:w.heap.size < w4.heap.size:=(sq bm.size))
  | go_in)
 all_goals first
  | (go_ret;refine ⟨?_,bJ⟩;refine congrArg (λb=>Ending.returned (Value.bool b)) ?_;show (_:Bool) = _;(try clear bM cB);(try clear cw hf3);(try clear ee hf4);unfold Aj;first | (simp [*];done) | (simp [*];omega) | (simp_all;done) | (simp_all;omega))
  | skip
theorem tY (x:ba) (cs:List Value) (F:List Nat) (w:World) (h:rd w x cs F) (hw:(x.wt:Int)<=1048576) :
 Calls Tryz.prog 34 #[.agg cs.toArray] w λe w'=>e = .returned (.bool (Aj x))/\Below w.heap.size w w':=by
 have i':x.wt = x.name.size+kL ao.wt x.labels+kL iU.wt x.aT:=rfl;obtain ⟨eZ,fG⟩:=sW (xs:=x.labels) J;obtain ⟨gg,i7⟩:=BH (xs:=x.aT) J;exact sQ x cs F w h J eZ fG gg i7
theorem tZ (x:ba) (cs:List Value) (F:List Nat) (w:World) (h:rd w x cs F) (hw:(x.wt:Int)<=1048576) :
 Calls Tryz.prog 88 #[.agg cs.toArray] w λe w'=>e = .returned (.bool (Aj x))/\Below w.heap.size w w':=by
 have i':x.wt = x.name.size+kL ao.wt x.labels+kL iU.wt x.aT:=rfl;obtain ⟨eZ,fG⟩:=sW (xs:=x.labels) J;obtain ⟨gg,i7⟩:=BH (xs:=x.aT) J;exact rO x cs F w h J eZ fG gg i7
def lN (xs:List aL):Bool:=oS uh nD 4 xs
theorem WI (xs:List aL) (A:Option Addr) (n c:Nat) (F:List Nat) (w:World) (h:Sl w xs A c F) (hn:n = xs.length) (hl:(xs.length:Int)<=1048576) (cN:(∀l∈xs,(l.key.size:Int)<=1048576/\(l.values.length:Int)<=1048576/\∀v∈l.values,(v.size:Int)<=1048576)) :
 Calls Tryz.prog 67 #[.slice A n c] w λe w'=>e = .returned (.bool (lN xs))/\Below w.heap.size w w':=by
 subst hn;have Eo:=I cN;clear cN;go_enter Tryz.func67,Tryz.ntmps67;go_wp2_with fail
 go_loopw [7] (λi wr=>∃k:Nat,k<=xs.length/\i = .int .i64 k/\Hid (∀j,j < k->rowAt uh nD xs j = true)/\Below w.heap.size w wr) (λi _=>xs.length - (intOf i).toNat)
 case atStart=>exact ⟨0,Nat.zero_le _,rfl,(λj hj=>by omega),bJ⟩
 case round =>
  obtain ⟨k,hk,rfl,hall,aM⟩:=hrel;by_cases ap:k < xs.length
  ·obtain rfl | ⟨j,rfl⟩:k = 0∨∃j,k = j+1:=by cases k with | zero=>exact .inl rfl | succ j=>exact .inr ⟨j,rfl⟩
   ·obtain ⟨b,o,ck,Fk,rfl,o9,hbs,hr,bi,hc⟩:=(Sl.ext (w':=wr) (A:=A) (c:=c) h aM).get ap;have cc:=hr;obtain ⟨jy,ji,Bo,ar,su,b5,gH,kV⟩:=og hr;subst ar;obtain ⟨q0,q1,q2⟩:=oa 3 hc;clear hc;simp only [Nat.zero_mul,Nat.add_zero] at q0 q1 q2;obtain ⟨cS,cO,hs3⟩:=Eo.out xs[0] (List.getElem_mem ..);cases h1:uh xs[0]
    all_goals
     have hp:=bR (ok:=uh) (less:=nD) ap;rw [h1] at hp;try simp only [Bool.false_and,Bool.and_false,Bool.and_true,Bool.and_self] at hp
     change rowAt uh nD xs _ = _ at hp
     have hK:∀wq,Below wr.heap.size wr wq->Calls Tryz.prog 109 #[.agg #[.string xs[0].key,.int .i64 xs[0].op,.slice jy xs[0].values.length ji]] wq λe w'=>e = .returned (.bool (uh xs[0]))/\Below wq.heap.size wq w' :=
      λwq hq=>Rw xs[0] _ _ _ (aJ cc hq) cS cO hs3
     rw [h1] at hK;have Rh:=I hK;clear hK
     first
      | have HN:=I (gq hall.out hp)
      | have HF:=I (wU (most:=4) ap hp)
     clear h1 hp;go_wp2_with fail
     refine aF _ U' U' (aj _) ?_
     repeat ((first | refine aG J' ?_ | refine aH _ J' yb ?_);simp only [Act.put,pz])
     refine aN ?_;intro wn hn;replace hn:=hn.out;go_wp2
     first
      | exact ⟨⟨0+1,J,N',HN.out,ah (ak aM _) hn⟩,by simp [intOf];omega⟩
      | (go_ret;exact ⟨by unfold lN;rw [HF.out];rfl,ah (ak aM _) hn⟩)
   ·obtain ⟨b,o,ck,Fk,rfl,o9,hbs,hr,bi,hc⟩:=(Sl.ext (w':=wr) (A:=A) (c:=c) h aM).get ap;have cc:=hr;obtain ⟨jy,ji,Bo,ar,su,b5,gH,kV⟩:=og hr;subst ar;obtain ⟨q0,q1,q2⟩:=oa 3 hc;clear hc;obtain ⟨b',o',TY,Xw,e,Ht,hbs',dE,zQ,hc'⟩:=Sl.get (Sl.ext (w':=wr) (c:=c) h aM) (show j < xs.length by omega);have QS:=dE;obtain ⟨qO,qP,KL,jU,abT,vC,hop2,zS⟩:=og dE;subst jU;obtain ⟨rfl,rfl⟩:b' = b/\o' = o:=by simpa using e.symm
    clear e;obtain ⟨p0,p1,p2⟩:=oa 3 hc';clear hc';have rE:IntKind.i64.wrap (j:Int) = j:=IntWalk.i64_in _ J;have jH:j < xs.length:=J;obtain ⟨hp1,ze,UV⟩:=Eo.out xs[j] (List.getElem_mem ..);obtain ⟨cS,cO,hs3⟩:=Eo.out xs[j+1] (List.getElem_mem ..);cases h1:uh xs[j+1] <;> cases h3:nD xs[j] xs[j+1]
    all_goals
     have hp:=yS (ok:=uh) (less:=nD) ap;rw [h1,h3] at hp;try simp only [Bool.false_and,Bool.and_false,Bool.and_true,Bool.and_self] at hp
     change rowAt uh nD xs _ = _ at hp
     have hK:∀wq,Below wr.heap.size wr wq->Calls Tryz.prog 109 #[.agg #[.string xs[j+1].key,.int .i64 xs[j+1].op,.slice jy xs[j+1].values.length ji]] wq λe w'=>e = .returned (.bool (uh xs[j+1]))/\Below wq.heap.size wq w' :=
      λwq hq=>Rw xs[j+1] _ _ _ (aJ cc hq) cS cO hs3
     rw [h1] at hK;have Rh:=I hK;clear hK
     first
      | have HN:=I (gq hall.out hp)
      | have HF:=I (wU (most:=4) ap hp)
     have hC:∀wq,Below wr.heap.size wr wq->Calls Tryz.prog 110 #[.agg #[.string xs[j].key,.int .i64 xs[j].op,.slice qO xs[j].values.length qP],.agg #[.string xs[j+1].key,.int .i64 xs[j+1].op,.slice jy xs[j+1].values.length ji]] wq λe w'=>e = .returned (.bool (nD xs[j] xs[j+1]))/\Below wq.heap.size wq w' :=
      λwq hq=>ail xs[j] xs[j+1] _ _ _ _ _ (aJ QS hq) (aJ cc hq) ze cO
     rw [h3] at hC;have pk:=I hC;clear hC;clear h1 hp;go_wp2_with fail
     refine aF _ U' U' (aj _) ?_
     repeat ((first | refine aG J' ?_ | refine aH _ J' yb ?_);simp only [Act.put,pz])
     refine aN ?_;intro wn hn;replace hn:=hn.out;go_wp2
     first
      | exact ⟨⟨j+1+1,J,N',HN.out,ah (ak aM _) hn⟩,by simp [intOf];omega⟩
      | (go_ret;exact ⟨by unfold lN;rw [HF.out];rfl,ah (ak aM _) hn⟩)
  ·have bz:k = xs.length:=J;subst bz;by_cases hm:(xs.length:Int)<=4
   ·have HF:=I (Jy hm hall.out);go_wp2;go_ret
    exact ⟨by unfold lN;rw [HF.out];first | rfl | simp [hm],aM⟩
   ·have HF:=I (Jz (ok:=uh) (less:=nD) hm);go_wp2;go_ret
    exact ⟨by unfold lN;rw [HF.out];first | rfl | simp [hm],aM⟩
theorem WJ (xs:List aL) (A:Option Addr) (n c:Nat) (F:List Nat) (w:World) (h:Sl w xs A c F) (hn:n = xs.length) (hl:(xs.length:Int)<=1048576) (cN:(∀l∈xs,(l.key.size:Int)<=1048576/\(l.values.length:Int)<=1048576/\∀v∈l.values,(v.size:Int)<=1048576)) :
 Calls Tryz.prog 138 #[.slice A n c] w λe w'=>e = .returned (.bool (lN xs))/\Below w.heap.size w w':=by
 subst hn;have Eo:=I cN;clear cN;by_cases hm:(xs.length:Int)<=4
 ·go_enter Tryz.func138,Tryz.ntmps138;go_wp2_with fail
  go_loopw [3] (λi wr=>∃k:Nat,k<=xs.length/\i = .int .i64 k/\Hid (∀j,j < k->rowAt uh nD xs j = true)/\Below w.heap.size w wr) (λi _=>xs.length - (intOf i).toNat)
  case atStart=>exact ⟨0,Nat.zero_le _,rfl,(λj hj=>by omega),bJ⟩
  case round =>
   obtain ⟨k,hk,rfl,hall,aM⟩:=hrel;by_cases ap:k < xs.length
   ·obtain rfl | ⟨j,rfl⟩:k = 0∨∃j,k = j+1:=by cases k with | zero=>exact .inl rfl | succ j=>exact .inr ⟨j,rfl⟩
    ·obtain ⟨b,o,ck,Fk,rfl,o9,hbs,hr,bi,hc⟩:=(Sl.ext (w':=wr) (A:=A) (c:=c) h aM).get ap;have cc:=hr;obtain ⟨jy,ji,Bo,ar,su,b5,gH,kV⟩:=og hr;subst ar;obtain ⟨q0,q1,q2⟩:=oa 3 hc;clear hc;simp only [Nat.zero_mul,Nat.add_zero] at q0 q1 q2;obtain ⟨cS,cO,hs3⟩:=Eo.out xs[0] (List.getElem_mem ..);cases h1:uh xs[0]
     all_goals
      have hp:=bR (ok:=uh) (less:=nD) ap;rw [h1] at hp;try simp only [Bool.false_and,Bool.and_false,Bool.and_true,Bool.and_self] at hp
      change rowAt uh nD xs _ = _ at hp
      have hK:∀wq,Below wr.heap.size wr wq->Calls Tryz.prog 167 #[.agg #[.string xs[0].key,.int .i64 xs[0].op,.slice jy xs[0].values.length ji]] wq λe w'=>e = .returned (.bool (uh xs[0]))/\Below wq.heap.size wq w' :=
       λwq hq=>Rx xs[0] _ _ _ (aJ cc hq) cS cO hs3
      rw [h1] at hK;have Rh:=I hK;clear hK
      first
       | have HN:=I (gq hall.out hp)
       | have HF:=I (wU (most:=4) ap hp)
      clear h1 hp;go_wp2_with fail
      refine aF _ U' U' (aj _) ?_
      repeat ((first | refine aG J' ?_ | refine aH _ J' yb ?_);simp only [Act.put,pz])
      refine aN ?_;intro wn hn;replace hn:=hn.out;go_wp2
      first
       | exact ⟨⟨0+1,J,N',HN.out,ah aM hn⟩,by simp [intOf];omega⟩
       | (go_ret;exact ⟨by unfold lN;rw [HF.out];rfl,ah aM hn⟩)
    ·obtain ⟨b,o,ck,Fk,rfl,o9,hbs,hr,bi,hc⟩:=(Sl.ext (w':=wr) (A:=A) (c:=c) h aM).get ap;have cc:=hr;obtain ⟨jy,ji,Bo,ar,su,b5,gH,kV⟩:=og hr;subst ar;obtain ⟨q0,q1,q2⟩:=oa 3 hc;clear hc;obtain ⟨b',o',TY,Xw,e,Ht,hbs',dE,zQ,hc'⟩:=Sl.get (Sl.ext (w':=wr) (c:=c) h aM) (show j < xs.length by omega);have QS:=dE;obtain ⟨qO,qP,KL,jU,abT,vC,hop2,zS⟩:=og dE;subst jU;obtain ⟨rfl,rfl⟩:b' = b/\o' = o:=by simpa using e.symm
     clear e;obtain ⟨p0,p1,p2⟩:=oa 3 hc';clear hc';have rE:IntKind.i64.wrap (j:Int) = j:=IntWalk.i64_in _ J;have jH:j < xs.length:=J;obtain ⟨hp1,ze,UV⟩:=Eo.out xs[j] (List.getElem_mem ..);obtain ⟨cS,cO,hs3⟩:=Eo.out xs[j+1] (List.getElem_mem ..);cases h1:uh xs[j+1] <;> cases h3:nD xs[j] xs[j+1]
     all_goals
      have hp:=yS (ok:=uh) (less:=nD) ap;rw [h1,h3] at hp;try simp only [Bool.false_and,Bool.and_false,Bool.and_true,Bool.and_self] at hp
      change rowAt uh nD xs _ = _ at hp
      have hK:∀wq,Below wr.heap.size wr wq->Calls Tryz.prog 167 #[.agg #[.string xs[j+1].key,.int .i64 xs[j+1].op,.slice jy xs[j+1].values.length ji]] wq λe w'=>e = .returned (.bool (uh xs[j+1]))/\Below wq.heap.size wq w' :=
       λwq hq=>Rx xs[j+1] _ _ _ (aJ cc hq) cS cO hs3
      rw [h1] at hK;have Rh:=I hK;clear hK
      first
       | have HN:=I (gq hall.out hp)
       | have HF:=I (wU (most:=4) ap hp)
      have hC:∀wq,Below wr.heap.size wr wq->Calls Tryz.prog 143 #[.agg #[.string xs[j].key,.int .i64 xs[j].op,.slice qO xs[j].values.length qP],.agg #[.string xs[j+1].key,.int .i64 xs[j+1].op,.slice jy xs[j+1].values.length ji]] wq λe w'=>e = .returned (.bool (nD xs[j] xs[j+1]))/\Below wq.heap.size wq w' :=
       λwq hq=>TN xs[j] xs[j+1] _ _ _ _ _ (aJ QS hq) (aJ cc hq) ze cO
      rw [h3] at hC;have pk:=I hC;clear hC;clear h1 hp;go_wp2_with fail
      refine aF _ U' U' (aj _) ?_
      repeat ((first | refine aG J' ?_ | refine aH _ J' yb ?_);simp only [Act.put,pz])
      refine aN ?_;intro wn hn;replace hn:=hn.out;go_wp2
      first
       | exact ⟨⟨j+1+1,J,N',HN.out,ah aM hn⟩,by simp [intOf];omega⟩
       | (go_ret;exact ⟨by unfold lN;rw [HF.out];rfl,ah aM hn⟩)
   ·have bz:k = xs.length:=J;subst bz;have HF:=I (Jy hm hall.out);go_wp2;go_ret
    exact ⟨by unfold lN;rw [HF.out];rfl,aM⟩
 ·have HF:=I (Jz (ok:=uh) (less:=nD) hm);go_enter Tryz.func138,Tryz.ntmps138;go_wp2;go_ret
  exact ⟨by unfold lN;rw [HF.out];rfl,bJ⟩
def GU (x:nI):Bool:=Qs x.name&&sD x.labels&&lN x.af&&Ya x.ae&&(decide (0<=x.aq)&&decide (0<=x.mem))&&(decide (0<=x.av)&&decide (x.av<=1000))
def VX (l:aL):Prop:=(l.key.size:Int)<=1048576/\(l.values.length:Int)<=1048576/\∀v∈l.values,(v.size:Int)<=1048576
def VY (l:bH):Prop:=(l.key.size:Int)<=1048576/\(l.value.size:Int)<=1048576
theorem vw (x:nI) (cs:List Value) (F:List Nat) (w:World) (h:rd w x cs F) (xt:(x.name.size:Int)<=1048576) (eZ:(x.labels.length:Int)<=1048576) (fG:∀l∈x.labels,(l.key.size:Int)<=1048576/\(l.value.size:Int)<=1048576) (tB:(x.af.length:Int)<=1048576) (VU:∀l∈x.af,VX l) (gg:(x.ae.length:Int)<=1048576) (i7:∀l∈x.ae,VY l) :
 Calls Tryz.prog 35 #[.agg cs.toArray] w λe w'=>e = .returned (.bool (GU x))/\Below w.heap.size w w':=by
 have Zb:=I fG;have N4:=I VU;have Ux:=I i7;clear fG i7 VU;have hr:=h;obtain ⟨gu,gy,jw,oh,nT,wG,fA,fB,jY,ar,hF,hname,dO,vg,b8,BJ,mX,eG⟩:=dL hr;subst ar;clear hr hF;go_enter Tryz.func35,Tryz.ntmps35
 go_wp2_with (first
  | (go_at_call 64;refine (Ro x.name _ xt).mono ?_;rintro e w2 ⟨rfl,am⟩;obtain ⟨bM,cB⟩:=ay am;have ca:w.heap.size < w2.heap.size:=(sq am.size))
  | (go_at_call 65;refine (Jv x.labels _ _ _ _ _ (dO.ext bJ) rfl eZ Zb.out).mono ?_;rintro e w3 ⟨rfl,az⟩;obtain ⟨cw,hf3⟩:=ay az;have eB:w.heap.size < w3.heap.size:=(sq az.size))
  | (go_at_call 67;refine (WI x.af _ _ _ _ _ (mX.ext bJ) rfl tB N4.out).mono ?_;rintro e w4 ⟨rfl,bm⟩;obtain ⟨ee,hf4⟩:=ay bm;have Wy:w.heap.size < w4.heap.size:=(sq bm.size))
  | (go_at_call 68;refine (RH x.ae _ _ _ _ _ (eG.ext bJ) rfl gg Ux.out).mono ?_;rintro e w5 ⟨rfl,bu⟩;obtain ⟨pA,ow⟩:=ay bu;have Es:w.heap.size < w5.heap.size:=(sq bu.size))
  | go_in)
 all_goals first
  | (go_ret;refine ⟨?_,bJ⟩;refine congrArg (λb=>Ending.returned (Value.bool b)) ?_;show (_:Bool) = _;(try clear bM cB);(try clear cw hf3);(try clear ee hf4);(try clear pA ow);unfold GU;first | (simp [*];done) | (simp [*];omega) | (simp_all;done) | (simp_all;omega))
  | skip
theorem wM (x:nI) (cs:List Value) (F:List Nat) (w:World) (h:rd w x cs F) (xt:(x.name.size:Int)<=1048576) (eZ:(x.labels.length:Int)<=1048576) (fG:∀l∈x.labels,(l.key.size:Int)<=1048576/\(l.value.size:Int)<=1048576) (tB:(x.af.length:Int)<=1048576) (VU:∀l∈x.af,VX l) (gg:(x.ae.length:Int)<=1048576) (i7:∀l∈x.ae,VY l) :
 Calls Tryz.prog 87 #[.agg cs.toArray] w λe w'=>e = .returned (.bool (GU x))/\Below w.heap.size w w':=by
 have Zb:=I fG;have N4:=I VU;have Ux:=I i7;clear fG i7 VU;have hr:=h;obtain ⟨gu,gy,jw,oh,nT,wG,fA,fB,jY,ar,hF,hname,dO,vg,b8,BJ,mX,eG⟩:=dL hr;subst ar;clear hr hF;go_enter Tryz.func87,Tryz.ntmps87
 go_wp2_with (first
  | (go_at_call 136;refine (Rq x.name _ xt).mono ?_;rintro e w2 ⟨rfl,am⟩;obtain ⟨bM,cB⟩:=ay am;have ca:w.heap.size < w2.heap.size:=(sq am.size))
  | (go_at_call 137;refine (Jw x.labels _ _ _ _ _ (dO.ext bJ) rfl eZ Zb.out).mono ?_;rintro e w3 ⟨rfl,az⟩;obtain ⟨cw,hf3⟩:=ay az;have eB:w.heap.size < w3.heap.size:=(sq az.size))
  | (go_at_call 138;refine (WJ x.af _ _ _ _ _ (mX.ext bJ) rfl tB N4.out).mono ?_;rintro e w4 ⟨rfl,bm⟩;obtain ⟨ee,hf4⟩:=ay bm;have Wy:w.heap.size < w4.heap.size:=(sq bm.size))
  | (go_at_call 139;refine (RI x.ae _ _ _ _ _ (eG.ext bJ) rfl gg Ux.out).mono ?_;rintro e w5 ⟨rfl,bu⟩;obtain ⟨pA,ow⟩:=ay bu;have Es:w.heap.size < w5.heap.size:=(sq bu.size))
  | go_in)
 all_goals first
  | (go_ret;refine ⟨?_,bJ⟩;refine congrArg (λb=>Ending.returned (Value.bool b)) ?_;show (_:Bool) = _;(try clear bM cB);(try clear cw hf3);(try clear ee hf4);(try clear pA ow);unfold GU;first | (simp [*];done) | (simp [*];omega) | (simp_all;done) | (simp_all;omega))
  | skip
theorem wH (x:nI) (cs:List Value) (F:List Nat) (w:World) (h:rd w x cs F) (hw:(x.wt:Int)<=1048576) :
 Calls Tryz.prog 35 #[.agg cs.toArray] w λe w'=>e = .returned (.bool (GU x))/\Below w.heap.size w w':=by
 have i':x.wt = x.name.size+kL ao.wt x.labels+kL aL.wt x.af+kL bH.wt x.ae:=rfl;obtain ⟨eZ,fG⟩:=sW (xs:=x.labels) J;obtain ⟨tB,VU⟩:=Aa (xs:=x.af) J;obtain ⟨gg,i7⟩:=FQ (xs:=x.ae) J;exact vw x cs F w h J eZ fG tB VU gg i7
theorem yT (x:nI) (cs:List Value) (F:List Nat) (w:World) (h:rd w x cs F) (hw:(x.wt:Int)<=1048576) :
 Calls Tryz.prog 87 #[.agg cs.toArray] w λe w'=>e = .returned (.bool (GU x))/\Below w.heap.size w w':=by
 have i':x.wt = x.name.size+kL ao.wt x.labels+kL aL.wt x.af+kL bH.wt x.ae:=rfl;obtain ⟨eZ,fG⟩:=sW (xs:=x.labels) J;obtain ⟨tB,VU⟩:=Aa (xs:=x.af) J;obtain ⟨gg,i7⟩:=FQ (xs:=x.ae) J;exact wM x cs F w h J eZ fG tB VU gg i7
structure U6 (x:ba):Prop where
 ns:(x.name.size:Int)<=1048576
 ll:(x.labels.length:Int)<=1048576
 ls:∀l∈x.labels,(l.key.size:Int)<=1048576/\(l.value.size:Int)<=1048576
 tl:(x.aT.length:Int)<=1048576
 ts:∀l∈x.aT,(l.key.size:Int)<=1048576/\(l.value.size:Int)<=1048576
structure Xl (x:nI):Prop where
 ns:(x.name.size:Int)<=1048576
 ll:(x.labels.length:Int)<=1048576
 ls:∀l∈x.labels,(l.key.size:Int)<=1048576/\(l.value.size:Int)<=1048576
 nl:(x.af.length:Int)<=1048576
 Rc:∀l∈x.af,VX l
 tl:(x.ae.length:Int)<=1048576
 ts:∀l∈x.ae,VY l
theorem U6.ur (x:ba) (hw:(x.wt:Int)<=1048576):U6 x:=by
 have i':x.wt = x.name.size+kL ao.wt x.labels+kL iU.wt x.aT:=rfl;obtain ⟨eZ,fG⟩:=sW (xs:=x.labels) J;obtain ⟨gg,i7⟩:=BH (xs:=x.aT) J;exact ⟨J,eZ,fG,gg,i7⟩
theorem Xl.ur (x:nI) (hw:(x.wt:Int)<=1048576):Xl x:=by
 have i':x.wt = x.name.size+kL ao.wt x.labels+kL aL.wt x.af+kL bH.wt x.ae:=rfl;obtain ⟨eZ,fG⟩:=sW (xs:=x.labels) J;obtain ⟨tB,VU⟩:=Aa (xs:=x.af) J;obtain ⟨gg,i7⟩:=FQ (xs:=x.ae) J;exact ⟨J,eZ,fG,tB,VU,gg,i7⟩
theorem aqB (nm:ByteArray) (xs:List ag):(F7 nm xs).length<=xs.length:=by unfold F7;rw [List.length_map];exact List.length_filter_le _ _
theorem alL {nm:ByteArray} {xs:List ag} {a b:Int} (h:vU (F7 nm xs) = some (a,b)):KF nm xs = .tuple #[.int .i64 a,.int .i64 b,.int .i64 (F7 nm xs).length,.bool true]:=by unfold KF;rw [h]
theorem alM {nm:ByteArray} {xs:List ag} (h:vU (F7 nm xs) = none):KF nm xs = .tuple #[.int .i64 0,.int .i64 0,.int .i64 0,.bool false]:=by unfold KF;rw [h]
def EU (x:aU) (h:ba):Bool:=match vU (F7 h.name x.M) with
 | none=>false
 | some (a,b)=>decide (a<=h.aq)&&(decide (b<=h.mem)&&decide (((F7 h.name x.M).length:Int)<=h.slots))
def dY (x:aU) (h:ba):Bool:=Aj h&&EU x h
def dQ (a b:ba):Bool:=Op.bytesLess a.name.toList b.name.toList
def jT (x:aU) (p:ag):Bool:=GU p.aS&&((decide (1<=p.seq)&&decide (p.seq<=x.next - 1))&&((p.on.toList == []) || decide (0<=pK (iM p.on) x.O)))
def dw (a b:ag):Bool:=Op.bytesLess a.aS.name.toList b.aS.name.toList
def seenIn (xs:List ag) (s:Int):Bool:=xs.any λq=>q.seq == s
def DN (xs:List ag) (k:Nat):Bool:=match xs[k]? with | none=>false | some p=>!(seenIn (xs.take k) p.seq)
theorem sG {xs:List ag} {k:Nat} (h:k < xs.length):DN xs k = !(seenIn (xs.take k) xs[k].seq):=by unfold DN;rw [List.getElem?_eq_getElem h]
def Em (x:aU):Bool:=decide ((x.O.length:Int)<=8)&&(decide ((x.M.length:Int)<=12)&&((decide (1<=x.next)&&decide (x.next<=1000000000))&&zL x.weights.pack x.weights.spread x.weights.soft))
def iI (x:aU):Bool:=Em x&&((List.range x.O.length).all (rowAt (dY x) dQ x.O)&&((List.range x.M.length).all (rowAt (jT x) dw x.M)&&(List.range x.M.length).all (DN x.M)))
theorem oU {x:aU} (h:Em x = false):iI x = false:=by unfold iI;rw [h];rfl
theorem dW {x:aU} {k:Nat} (hk:k < x.O.length) (h:rowAt (dY x) dQ x.O k = false):iI x = false:=by unfold iI;rw [YF hk h];simp
theorem jP {x:aU} {k:Nat} (hk:k < x.M.length) (h:rowAt (jT x) dw x.M k = false):iI x = false:=by unfold iI;rw [YF hk h];simp
theorem DR {x:aU} {k:Nat} (hk:k < x.M.length) (h:DN x.M k = false):iI x = false:=by unfold iI;rw [YF hk h];simp
theorem OX {x:aU} (h0:Em x = true) (h1:∀j,j < x.O.length->rowAt (dY x) dQ x.O j = true) (h2:∀j,j < x.M.length->rowAt (jT x) dw x.M j = true) (h3:∀j,j < x.M.length->DN x.M j = true):iI x = true:=by
 unfold iI;rw [h0,YG h1,YG h2,YG h3];rfl
theorem pV {α:Type} {ok:α->Bool} {less:α->α->Bool} {xs:List α} {v:Bool} (h:0 < xs.length) (e:ok xs[0] = v):rowAt ok less xs 0 = v:=by rw [bR h,e]
theorem nM {α:Type} {ok:α->Bool} {less:α->α->Bool} {xs:List α} {j:Nat} {v u:Bool} (h:j+1 < xs.length) (e:ok xs[j+1] = v) (e2:less xs[j] xs[j+1] = u):rowAt ok less xs (j+1) = (v&&u):=by rw [yS h,e,e2]
theorem alN {x:aU} {h:ba} (e:vU (F7 h.name x.M) = none):EU x h = false:=by unfold EU;rw [e]
theorem U9 {x:aU} {h:ba} {a b:Int} (e:vU (F7 h.name x.M) = some (a,b)):EU x h = (decide (a<=h.aq)&&(decide (b<=h.mem)&&decide (((F7 h.name x.M).length:Int)<=h.slots))):=by unfold EU;rw [e]
theorem E8 (x:aU) (h:ba):∃(a b n:Int) (xu:Bool),KF h.name x.M = .tuple #[.int .i64 a,.int .i64 b,.int .i64 n,.bool xu]/\EU x h = (xu&&(decide (a<=h.aq)&&(decide (b<=h.mem)&&decide (n<=h.slots))))/\0<=n/\n<=x.M.length:=by
 cases e:vU (F7 h.name x.M) with
 | none=>exact ⟨0,0,0,false,alM e,by rw [alN e];rfl,J,J⟩
 | some ab =>obtain ⟨a,b⟩:=ab;have:=aqB h.name x.M;exact ⟨a,b,(F7 h.name x.M).length,true,alL e,by rw [U9 e];rfl,J,J⟩
theorem Sl.Ec {w:World} {xs:List ag} {A:Option Addr} {c:Nat} {F:List Nat} (h:Sl w xs A c F):∀p∈xs,bt p.seq:=by
 intro p hp;obtain ⟨k,hk,rfl⟩:=List.getElem_of_mem hp;obtain ⟨b,o,ck,Fk,_,_,_,hr,_⟩:=h.get hk;obtain ⟨gV,gW,lF,iR,iT,mV,dD,dF,iH,ar,hF,nY,iE,rF,rG,oZ,je,dN,eC,hseq⟩:=kE hr;exact hseq
end Go.Proofs.YtdegaofigemegaaGreat
namespace Go.Proofs.YtdegaofigemegaaGreat
open Go.ChangeShapes Go.WideShapes Go.ChangeAt Go.RowKit
set_option linter.unusedVariables false
set_option linter.unusedSimpArgs false
open Go.Maps (Keyed)
theorem NY {H:Type} {P:Program} {w:World} {t k e:TypeId} {b n:Nat} {D:DataW H} (h:w.ownsMap P k (plainElem P e) b n D) (K:Keyed P k) (ht:P.underlying t = some (.map k e)) (he:P.underlying e = some .bool) (hz:(zeroValue e).run P w = .ok (.bool false) w)
 {key:Value} {kl:Lit} (b5:keyOf P k key = some kl) {c:Bool} (cF:D.atKey kl (.lit (.bool false)) = .lit (.bool c)):(Instr.lookup t (.map (some b)) key false).run P w = .ok (.bool c) w:=by
 obtain ⟨v,ps,hrun,hv⟩:=h.lookup K ht hz (plainElem_bool he false) b5;rw [cF] at hv;unfold plainElem at hv;rw [he] at hv;cases v <;> simp at hv
 obtain ⟨rfl,_⟩:=hv;exact hrun
def II (xs:List ag):DataW Unit:=xs.foldl (λD p=>D.put (.int .i64 p.seq) (.lit (.bool true))) (.map [])
theorem J3 (xs:List ag) (p:ag):II (xs++[p]) = (II xs).put (.int .i64 p.seq) (.lit (.bool true)):=by unfold II;rw [List.foldl_append];rfl
theorem aqk (s:Int) (hs:bt s):WideAt.IsKeyLit (.int .i64 s):=by
 simp [WideAt.IsKeyLit]
theorem WX (s:Int) (hs:bt s):∀(xs:List ag) (D:DataW Unit) (c:Bool),Maps.IsMap D->D.atKey (.int .i64 s) (.lit (.bool false)) = .lit (.bool c) ->
 (xs.foldl (λD p=>D.put (.int .i64 p.seq) (.lit (.bool true))) D).atKey (.int .i64 s) (.lit (.bool false)) = .lit (.bool (c || seenIn xs s))
 | [],D,c,_,h=>by simpa [seenIn] using h
 | p :: xs,D,c,hD,h=>by
   rw [List.foldl_cons];by_cases e:p.seq = s
   ·rw [WX s hs xs _ true (hD.put _ _) (by rw [e];exact Maps.atKey_put_same hD (aqk s hs) _ _)];simp [seenIn,e]
   ·rw [WX s hs xs _ c (hD.put _ _) (by rw [Maps.atKey_put_other (by intro h2;apply e;injection h2 with _ h3;exact h3.symm)];exact h)];have e2:(p.seq == s) = false:=(by simpa using e);simp [seenIn,e2]
theorem aeY (xs:List ag) (s:Int) (hs:bt s):(II xs).atKey (.int .i64 s) (.lit (.bool false)) = .lit (.bool (seenIn xs s)):=by
 have h:=WX s hs xs (.map []) false Maps.isMap_empty rfl;simpa [II] using h
theorem Oy:Keyed Tryz.prog 3:=Maps.int_keyed Tryz.underlying3
theorem abl (w:World):(zeroValue 4).run Tryz.prog w = .ok (.bool false) w:=by kernel_rfl
theorem grown_of {w w':World} (hb:Below w.heap.size w w'):w.grownBy w' none:=⟨hb.os,hb.tape,hb.output,hb.size,λk hk _=>hb.block k hk⟩
end Go.Proofs.YtdegaofigemegaaGreat
