/- HostOk, of the program and of the reference. No condition. -/
import Derived.Test.YtogkjlcoadhpgaaGreatShare
import Derived.Test.YtogkjlcoadhpgaaGreatVarP
import Derived.Test.YtogkjlcoadhpgaaGreatUsed
import Derived.Test.YtogkjlcoadhpgaaGreatTaintOk
import Derived.Test.YtogkjlcoadhpgaaGreatAt
import Derived.Test.YtogkjlcoadhpgaaGreatNeedOk
import Derived.Test.YtogkjlcoadhpgaaGreatTolCmp
namespace Go.Proofs.YtogkjlcoadhpgaaGreat
open Go.ChangeShapes Go.WideShapes Go.ChangeAt Go.RowKit
set_option linter.unusedVariables false
set_option linter.unusedSimpArgs false
def Aj (x:Host):Bool:=Qs x.name&&sD x.labels&&La x.aT&&(decide (0≤x.cpu)&&decide (0≤x.mem))&&(decide (1≤x.slots)&&decide (x.slots≤20))
set_option maxRecDepth 100000 in
set_option maxHeartbeats 2000000 in
theorem tY (x:Host) (cs:List Value) (F:List Nat) (w:World) (h:rd w x cs F) (hw:(x.wt:Int)≤1048576) :
 Calls Tryz.prog 49 #[.agg cs.toArray] w fun e w'=>e = .returned (.bool (Aj x))∧Below w.heap.size w w':=by
 have hwx:x.wt = x.name.size+kL Label.wt x.labels+kL iU.wt x.aT:=rfl
 obtain ⟨hll,hls⟩:=sW (xs:=x.labels) (by omega)
 obtain ⟨htl,hts⟩:=BH (xs:=x.aT) (by omega)
 have hns:(x.name.size:Int)≤1048576:=by omega
 have Zb:=Lib.hid hls
 have Ux:=Lib.hid hts
 clear hls hts
 have hr:=h
 obtain ⟨gu,gy,jw,kJ,kK,qU,hck,hF,hname,dO,vg,hmem,uI,jq⟩:=iy hr
 subst hck
 clear hr hF
 go_enter Tryz.func49,Tryz.ntmps49
 go_wp2_with (first
  | (go_at_call 86;refine (Ro x.name _ hns).mono ?_;rintro e w2 ⟨rfl,hb2⟩;obtain ⟨hc2,hf2⟩:=ay hb2;have hz2:w.heap.size < w2.heap.size:=(sq hb2.size))
  | (go_at_call 87;refine (Jv x.labels _ _ _ _ _ (dO.ext atS) rfl hll Zb.out).mono ?_;rintro e w3 ⟨rfl,hb3⟩;obtain ⟨hc3,hf3⟩:=ay hb3;have hz3:w.heap.size < w3.heap.size:=(sq hb3.size))
  | (go_at_call 88;refine (ZK x.aT _ _ _ _ _ (jq.ext atS) rfl htl Ux.out).mono ?_;rintro e w4 ⟨rfl,hb4⟩;obtain ⟨hc4,hf4⟩:=ay hb4;have Wy:w.heap.size < w4.heap.size:=(sq hb4.size))
  | go_in)
 all_goals first
  | (go_ret;refine ⟨?_,atS⟩;refine congrArg (fun b=>Ending.returned (Value.bool b)) ?_;show (_:Bool) = _;(try clear hc2 hf2);(try clear hc3 hf3);(try clear hc4 hf4);unfold Aj;first | (simp [*];done) | (simp [*];omega) | (simp_all;done) | (simp_all;omega))
  | skip
set_option maxRecDepth 100000 in
set_option maxHeartbeats 2000000 in
theorem tZ (x:Host) (cs:List Value) (F:List Nat) (w:World) (h:rd w x cs F) (hw:(x.wt:Int)≤1048576) :
 Calls Tryz.prog 39 #[.agg cs.toArray] w fun e w'=>e = .returned (.bool (Aj x))∧Below w.heap.size w w':=by
 have hwx:x.wt = x.name.size+kL Label.wt x.labels+kL iU.wt x.aT:=rfl
 obtain ⟨hll,hls⟩:=sW (xs:=x.labels) (by omega)
 obtain ⟨htl,hts⟩:=BH (xs:=x.aT) (by omega)
 have hns:(x.name.size:Int)≤1048576:=by omega
 have Zb:=Lib.hid hls
 have Ux:=Lib.hid hts
 clear hls hts
 have hr:=h
 obtain ⟨gu,gy,jw,kJ,kK,qU,hck,hF,hname,dO,vg,hmem,uI,jq⟩:=iy hr
 subst hck
 clear hr hF
 go_enter Tryz.func39,Tryz.ntmps39
 go_wp2_with (first
  | (go_at_call 75;refine (Rq x.name _ hns).mono ?_;rintro e w2 ⟨rfl,hb2⟩;obtain ⟨hc2,hf2⟩:=ay hb2;have hz2:w.heap.size < w2.heap.size:=(sq hb2.size))
  | (go_at_call 76;refine (Jw x.labels _ _ _ _ _ (dO.ext atS) rfl hll Zb.out).mono ?_;rintro e w3 ⟨rfl,hb3⟩;obtain ⟨hc3,hf3⟩:=ay hb3;have hz3:w.heap.size < w3.heap.size:=(sq hb3.size))
  | (go_at_call 79;refine (ZL x.aT _ _ _ _ _ (jq.ext atS) rfl htl Ux.out).mono ?_;rintro e w4 ⟨rfl,hb4⟩;obtain ⟨hc4,hf4⟩:=ay hb4;have Wy:w.heap.size < w4.heap.size:=(sq hb4.size))
  | go_in)
 all_goals first
  | (go_ret;refine ⟨?_,atS⟩;refine congrArg (fun b=>Ending.returned (Value.bool b)) ?_;show (_:Bool) = _;(try clear hc2 hf2);(try clear hc3 hf3);(try clear hc4 hf4);unfold Aj;first | (simp [*];done) | (simp [*];omega) | (simp_all;done) | (simp_all;omega))
  | skip
end Go.Proofs.YtogkjlcoadhpgaaGreat
namespace Go.Proofs.YtogkjlcoadhpgaaGreat
open Go.ChangeShapes Go.WideShapes Go.ChangeAt Go.RowKit
set_option linter.unusedVariables false
set_option linter.unusedSimpArgs false
theorem ahT:∀(xs:List Int) (s t:Int),(∀x∈xs,I64 x)→I64 s→GZ xs s = some t→I64 t
 | [],s,t,_,hs,h=>by simp only [GZ,Option.some.injEq] at h;subst h;exact hs
 | x :: xs,s,t,hx,hs,h=>by
   simp only [GZ] at h
   cases e:GX s x with
   | none=>rw [e] at h;cases h
   | some m =>
     rw [e] at h
     exact ahT xs m t (fun y hy=>hx y (List.mem_cons_of_mem _ hy)) (abW e hs (hx x (List.mem_cons_self ..))) h
theorem aqt {xs:List nI} {a b:Int} (hx:∀p∈xs,I64 p.cpu∧I64 p.mem) (h:vU xs = some (a,b)):I64 a∧I64 b:=by
 unfold vU at h
 cases e1:GZ (xs.map nI.cpu) 0 with
 | none=>rw [e1] at h;cases h
 | some m =>
   cases e2:GZ (xs.map nI.mem) 0 with
   | none=>rw [e1,e2] at h;cases h
   | some n =>
     rw [e1,e2] at h
     simp only [Option.some.injEq,Prod.mk.injEq] at h
     obtain ⟨rfl,rfl⟩:=h
     have z:I64 0:=⟨by omega,by omega⟩
     refine ⟨ahT _ 0 _ (fun y hy=>?_) z e1,ahT _ 0 _ (fun y hy=>?_) z e2⟩
     ·obtain ⟨p,hp,rfl⟩:=List.mem_map.1 hy;exact (hx p hp).1
     ·obtain ⟨p,hp,rfl⟩:=List.mem_map.1 hy;exact (hx p hp).2
theorem atL {nm:ByteArray} {xs:List Placed} {p:nI} (h:p∈F7 nm xs):∃q∈xs,p = q.aS:=by
 unfold F7 at h
 obtain ⟨q,hq,rfl⟩:=List.mem_map.1 h
 exact ⟨q,(List.mem_filter.1 hq).1,rfl⟩
theorem Sl.ao8 {w:World} {xs:List Placed} {A:Option Addr} {c:Nat} {F:List Nat} (h:Sl w xs A c F):∀p∈xs,I64 p.aS.cpu∧I64 p.aS.mem:=by
 intro p hp
 obtain ⟨k,hk,rfl⟩:=List.getElem_of_mem hp
 obtain ⟨b,o,ck,Fk,_,_,_,hr,_⟩:=h.get hk
 obtain ⟨gV,gW,lF,iR,iT,mV,dD,dF,iH,hck,hF,nY,iE,rF,rG,oZ,je,dN,hon,hseq⟩:=kE hr
 exact ⟨rF,rG⟩
theorem UD {w:World} {xs:List Placed} {A:Option Addr} {c:Nat} {F:List Nat} {nm:ByteArray} {a b:Int} (h:Sl w xs A c F) (hs:vU (F7 nm xs) = some (a,b)):I64 a∧I64 b :=
 aqt (fun p hp=>by obtain ⟨q,hq,rfl⟩:=atL hp;exact h.ao8 q hq) hs
theorem AX {nm:ByteArray} {xs:List Placed} {a b:Int} (h:vU (F7 nm xs) = some (a,b)):KF nm xs = .tuple #[.int .i64 a,.int .i64 b,.int .i64 (F7 nm xs).length,.bool true]:=by unfold KF;rw [h]
theorem AV {nm:ByteArray} {xs:List Placed} (h:vU (F7 nm xs) = none):KF nm xs = .tuple #[.int .i64 0,.int .i64 0,.int .i64 0,.bool false]:=by unfold KF;rw [h]
end Go.Proofs.YtogkjlcoadhpgaaGreat
namespace Go.Proofs.YtogkjlcoadhpgaaGreat
open Go.ChangeShapes Go.WideShapes Go.ChangeAt Go.RowKit
set_option linter.unusedVariables false
set_option linter.unusedSimpArgs false
def qG (a b:Int):Int:=(GX a b).getD 9223372036854775807
theorem Ru {a b:Int} (ha:I64 a) (hb:I64 b):I64 (qG a b):=by
 unfold qG
 cases h:GX a b with
 | none=>exact ⟨by show _≤(9223372036854775807:Int);omega,by show (9223372036854775807:Int)≤_;omega⟩
 | some t=>exact abW h ha hb
def OT (nm:ByteArray) (x:aU) (p:nI):Int :=
 if pK (iM nm) x.hosts < 0 then 0 else
 match vU (F7 nm x.au),x.hosts[(pK (iM nm) x.hosts).toNat]? with
 | some (a,b),some h=>(CQ (qG a p.cpu) h.cpu+CQ (qG b p.mem) h.mem) / 2
 | _,_=>0
def EF (nm:ByteArray) (x:aU):Int :=
 if pK (iM nm) x.hosts < 0 then 0 else
 match vU (F7 nm x.au),x.hosts[(pK (iM nm) x.hosts).toNat]? with
 | some (a,b),some h=>100 - CQ (F7 nm x.au).length h.slots
 | _,_=>0
theorem amo {nm:ByteArray} {x:aU} {p:nI} (h:pK (iM nm) x.hosts = -1):OT nm x p = 0:=by unfold OT;rw [h];rfl
theorem agF {nm:ByteArray} {x:aU} {p:nI} (h:vU (F7 nm x.au) = none):OT nm x p = 0:=by unfold OT;rw [h];simp
theorem amq {nm:ByteArray} {x:aU} {p:nI} {k:Nat} {a b:Int} (hk:k < x.hosts.length) (h:pK (iM nm) x.hosts = k) (hs:vU (F7 nm x.au) = some (a,b)):OT nm x p = (CQ (qG a p.cpu) x.hosts[k].cpu+CQ (qG b p.mem) x.hosts[k].mem) / 2:=by
 unfold OT
 exact Zad9
theorem agG {nm:ByteArray} {x:aU} (h:pK (iM nm) x.hosts = -1):EF nm x = 0:=by unfold EF;rw [h];rfl
theorem abX {nm:ByteArray} {x:aU} (h:vU (F7 nm x.au) = none):EF nm x = 0:=by unfold EF;rw [h];simp
theorem agH {nm:ByteArray} {x:aU} {k:Nat} {a b:Int} (hk:k < x.hosts.length) (h:pK (iM nm) x.hosts = k) (hs:vU (F7 nm x.au) = some (a,b)):EF nm x = 100 - CQ (F7 nm x.au).length x.hosts[k].slots:=by
 unfold EF
 exact Zad9
theorem adO (nm:ByteArray) (x:aU) (p:nI):0≤OT nm x p∧OT nm x p≤100:=by
 unfold OT
 split
 ·omega
 ·split
  ·rename_i a b h _ _
   have h1:=zJ (qG a p.cpu) h.cpu
   have h2:=zJ (qG b p.mem) h.mem
   omega
  ·omega
theorem ZO (nm:ByteArray) (x:aU):0≤EF nm x∧EF nm x≤100:=by
 unfold EF
 split
 ·omega
 ·split
  ·rename_i a b h _ _
   have h1:=zJ (F7 nm x.au).length h.slots
   omega
  ·omega
end Go.Proofs.YtogkjlcoadhpgaaGreat
namespace Go.Proofs.YtogkjlcoadhpgaaGreat
open Go.ChangeShapes Go.WideShapes Go.ChangeAt Go.RowKit
set_option linter.unusedVariables false
set_option linter.unusedSimpArgs false
def aeH (xs:List Need):Bool:=adb uh nD 4 xs
set_option maxRecDepth 100000 in
set_option maxHeartbeats 2000000 in
theorem WI (xs:List Need) (A:Option Addr) (n c:Nat) (F:List Nat) (w:World) (h:Sl w xs A c F) (hn:n = xs.length) (hl:(xs.length:Int)≤1048576) (hsm:(∀l∈xs,(l.key.size:Int)≤1048576∧(l.values.length:Int)≤1048576∧∀v∈l.values,(v.size:Int)≤1048576)) :
 Calls Tryz.prog 89 #[.slice A n c] w fun e w'=>e = .returned (.bool (aeH xs))∧Below w.heap.size w w':=by
 subst hn
 have Eo:=Lib.hid hsm
 clear hsm
 go_enter Tryz.func89,Tryz.ntmps89
 go_wp2_with fail
 go_loopw [7] (fun i wr=>∃k:Nat,k≤xs.length∧i = .int .i64 k∧Hid (∀j,j < k→rowAt uh nD xs j = true)∧Below w.heap.size w wr) (fun i _=>xs.length - (intOf i).toNat)
 case atStart=>exact ⟨0,Nat.zero_le _,rfl,(fun j hj=>by omega),atS⟩
 case round =>
  obtain ⟨k,hk,rfl,hall,hbl⟩:=hrel
  by_cases hlt:k < xs.length
  ·obtain rfl | ⟨j,rfl⟩:k = 0∨∃j,k = j+1:=by cases k with | zero=>exact .inl rfl | succ j=>exact .inr ⟨j,rfl⟩
   ·obtain ⟨b,o,ck,Fk,rfl,o9,hbs,hr,hsub,hc⟩:=(Sl.ext (w':=wr) (A:=A) (c:=c) h hbl).get hlt
    have hr0:=hr
    obtain ⟨jy,ji,Bo,hck,su,hkey,hop,kV⟩:=og hr
    subst hck
    have q0:wr.cell? ⟨b,o+0 * 3,none⟩ = some (.string xs[0].key):=by exact hc 0 _ rfl
    have q1:wr.cell? ⟨b,o+0 * 3+1,none⟩ = some (.int .i64 xs[0].op):=by rw [Nat.add_assoc];exact hc 1 _ rfl
    have q2:wr.cell? ⟨b,o+0 * 3+2,none⟩ = some (.slice jy xs[0].values.length ji):=by rw [Nat.add_assoc];exact hc 2 _ rfl
    clear hc
    simp only [Nat.zero_mul,Nat.add_zero] at q0 q1 q2
    obtain ⟨hs1,hs2,hs3⟩:=Eo.out xs[0] (List.getElem_mem ..)
    cases h1:uh xs[0]
    all_goals
     have hp:=rowAt_zero (ok:=uh) (less:=nD) hlt
     rw [h1] at hp
     try simp only [Bool.false_and,Bool.and_false,Bool.and_true,Bool.and_self] at hp
     change rowAt uh nD xs _ = _ at hp
     have hK:∀wq,Below wr.heap.size wr wq→Calls Tryz.prog 134 #[.agg #[.string xs[0].key,.int .i64 xs[0].op,.slice jy xs[0].values.length ji]] wq fun e w'=>e = .returned (.bool (uh xs[0]))∧Below wq.heap.size wq w' :=
      fun wq hq=>Rw xs[0] _ _ _ (aJ hr0 hq) hs1 hs2 hs3
     rw [h1] at hK
     have NOK:=Lib.hid hK
     clear hK
     first
      | have HN:=Lib.hid (gq hall.out hp)
      | have HF:=Lib.hid (wU (most:=4) hlt hp)
     clear h1 hp
     go_wp2_with fail
     refine aF _ (by kernel_rfl) (by kernel_rfl) (aj _) ?_
     repeat (first
      | (apply aG
         case hw=>rfl
         simp only [Act.put,pz])
      | (apply aH
         case hw=>rfl
         case h =>
          exact Zabc
         simp only [Act.put,pz]))
     refine aN ?_
     intro wn hn
     replace hn:=hn.out
     go_wp2
     first
      | exact ⟨⟨0+1,by omega,by go_num,HN.out,ah (ak hbl _) hn⟩,by simp [intOf];omega⟩
      | (go_ret;exact ⟨by unfold aeH;rw [HF.out];rfl,ah (ak hbl _) hn⟩)
   ·obtain ⟨b,o,ck,Fk,rfl,o9,hbs,hr,hsub,hc⟩:=(Sl.ext (w':=wr) (A:=A) (c:=c) h hbl).get hlt
    have hr0:=hr
    obtain ⟨jy,ji,Bo,hck,su,hkey,hop,kV⟩:=og hr
    subst hck
    have q0:wr.cell? ⟨b,o+(j+1) * 3,none⟩ = some (.string xs[j+1].key):=by exact hc 0 _ rfl
    have q1:wr.cell? ⟨b,o+(j+1) * 3+1,none⟩ = some (.int .i64 xs[j+1].op):=by rw [Nat.add_assoc];exact hc 1 _ rfl
    have q2:wr.cell? ⟨b,o+(j+1) * 3+2,none⟩ = some (.slice jy xs[j+1].values.length ji):=by rw [Nat.add_assoc];exact hc 2 _ rfl
    clear hc
    obtain ⟨b',o',TY,Xw,e,Ht,hbs',hr',zQ,hc'⟩:=Sl.get (Sl.ext (w':=wr) (c:=c) h hbl) (show j < xs.length by omega)
    have QS:=hr'
    obtain ⟨qO,qP,KL,jU,abT,vC,hop2,zS⟩:=og hr'
    subst jU
    obtain ⟨rfl,rfl⟩:b' = b∧o' = o:=by simpa using e.symm
    clear e
    have p0:wr.cell? ⟨b',o'+j * 3,none⟩ = some (.string xs[j].key):=by exact hc' 0 _ rfl
    have p1:wr.cell? ⟨b',o'+j * 3+1,none⟩ = some (.int .i64 xs[j].op):=by rw [Nat.add_assoc];exact hc' 1 _ rfl
    have p2:wr.cell? ⟨b',o'+j * 3+2,none⟩ = some (.slice qO xs[j].values.length qP):=by rw [Nat.add_assoc];exact hc' 2 _ rfl
    clear hc'
    have hwj:IntKind.i64.wrap (j:Int) = j:=IntWalk.i64_in _ (by omega)
    have hjl:j < xs.length:=by omega
    obtain ⟨hp1,hp2,hp3⟩:=Eo.out xs[j] (List.getElem_mem ..)
    obtain ⟨hs1,hs2,hs3⟩:=Eo.out xs[j+1] (List.getElem_mem ..)
    cases h1:uh xs[j+1] <;> cases h3:nD xs[j] xs[j+1]
    all_goals
     have hp:=yS (ok:=uh) (less:=nD) hlt
     rw [h1,h3] at hp
     try simp only [Bool.false_and,Bool.and_false,Bool.and_true,Bool.and_self] at hp
     change rowAt uh nD xs _ = _ at hp
     have hK:∀wq,Below wr.heap.size wr wq→Calls Tryz.prog 134 #[.agg #[.string xs[j+1].key,.int .i64 xs[j+1].op,.slice jy xs[j+1].values.length ji]] wq fun e w'=>e = .returned (.bool (uh xs[j+1]))∧Below wq.heap.size wq w' :=
      fun wq hq=>Rw xs[j+1] _ _ _ (aJ hr0 hq) hs1 hs2 hs3
     rw [h1] at hK
     have NOK:=Lib.hid hK
     clear hK
     first
      | have HN:=Lib.hid (gq hall.out hp)
      | have HF:=Lib.hid (wU (most:=4) hlt hp)
     have hC:∀wq,Below wr.heap.size wr wq→Calls Tryz.prog 135 #[.agg #[.string xs[j].key,.int .i64 xs[j].op,.slice qO xs[j].values.length qP],.agg #[.string xs[j+1].key,.int .i64 xs[j+1].op,.slice jy xs[j+1].values.length ji]] wq fun e w'=>e = .returned (.bool (nD xs[j] xs[j+1]))∧Below wq.heap.size wq w' :=
      fun wq hq=>ail xs[j] xs[j+1] _ _ _ _ _ (aJ QS hq) (aJ hr0 hq) hp2 hs2
     rw [h3] at hC
     have CMP:=Lib.hid hC
     clear hC
     clear h1 hp
     go_wp2_with fail
     refine aF _ (by kernel_rfl) (by kernel_rfl) (aj _) ?_
     repeat (first
      | (apply aG
         case hw=>rfl
         simp only [Act.put,pz])
      | (apply aH
         case hw=>rfl
         case h =>
          exact Zabc
         simp only [Act.put,pz]))
     refine aN ?_
     intro wn hn
     replace hn:=hn.out
     go_wp2
     first
      | exact ⟨⟨j+1+1,by omega,by go_num,HN.out,ah (ak hbl _) hn⟩,by simp [intOf];omega⟩
      | (go_ret;exact ⟨by unfold aeH;rw [HF.out];rfl,ah (ak hbl _) hn⟩)
  ·have hkl:k = xs.length:=by omega
   subst hkl
   by_cases hm:(xs.length:Int)≤4
   ·have HF:=Lib.hid (Jy hm hall.out)
    go_wp2
    go_ret
    exact ⟨by unfold aeH;rw [HF.out];first | rfl | simp [hm],hbl⟩
   ·have HF:=Lib.hid (Jz (ok:=uh) (less:=nD) hm)
    go_wp2
    go_ret
    exact ⟨by unfold aeH;rw [HF.out];first | rfl | simp [hm],hbl⟩
set_option maxRecDepth 100000 in
set_option maxHeartbeats 2000000 in
theorem WJ (xs:List Need) (A:Option Addr) (n c:Nat) (F:List Nat) (w:World) (h:Sl w xs A c F) (hn:n = xs.length) (hl:(xs.length:Int)≤1048576) (hsm:(∀l∈xs,(l.key.size:Int)≤1048576∧(l.values.length:Int)≤1048576∧∀v∈l.values,(v.size:Int)≤1048576)) :
 Calls Tryz.prog 77 #[.slice A n c] w fun e w'=>e = .returned (.bool (aeH xs))∧Below w.heap.size w w':=by
 subst hn
 have Eo:=Lib.hid hsm
 clear hsm
 by_cases hm:(xs.length:Int)≤4
 ·go_enter Tryz.func77,Tryz.ntmps77
  go_wp2_with fail
  go_loopw [3] (fun i wr=>∃k:Nat,k≤xs.length∧i = .int .i64 k∧Hid (∀j,j < k→rowAt uh nD xs j = true)∧Below w.heap.size w wr) (fun i _=>xs.length - (intOf i).toNat)
  case atStart=>exact ⟨0,Nat.zero_le _,rfl,(fun j hj=>by omega),atS⟩
  case round =>
   obtain ⟨k,hk,rfl,hall,hbl⟩:=hrel
   by_cases hlt:k < xs.length
   ·obtain rfl | ⟨j,rfl⟩:k = 0∨∃j,k = j+1:=by cases k with | zero=>exact .inl rfl | succ j=>exact .inr ⟨j,rfl⟩
    ·obtain ⟨b,o,ck,Fk,rfl,o9,hbs,hr,hsub,hc⟩:=(Sl.ext (w':=wr) (A:=A) (c:=c) h hbl).get hlt
     have hr0:=hr
     obtain ⟨jy,ji,Bo,hck,su,hkey,hop,kV⟩:=og hr
     subst hck
     have q0:wr.cell? ⟨b,o+0 * 3,none⟩ = some (.string xs[0].key):=by exact hc 0 _ rfl
     have q1:wr.cell? ⟨b,o+0 * 3+1,none⟩ = some (.int .i64 xs[0].op):=by rw [Nat.add_assoc];exact hc 1 _ rfl
     have q2:wr.cell? ⟨b,o+0 * 3+2,none⟩ = some (.slice jy xs[0].values.length ji):=by rw [Nat.add_assoc];exact hc 2 _ rfl
     clear hc
     simp only [Nat.zero_mul,Nat.add_zero] at q0 q1 q2
     obtain ⟨hs1,hs2,hs3⟩:=Eo.out xs[0] (List.getElem_mem ..)
     cases h1:uh xs[0]
     all_goals
      have hp:=rowAt_zero (ok:=uh) (less:=nD) hlt
      rw [h1] at hp
      try simp only [Bool.false_and,Bool.and_false,Bool.and_true,Bool.and_self] at hp
      change rowAt uh nD xs _ = _ at hp
      have hK:∀wq,Below wr.heap.size wr wq→Calls Tryz.prog 114 #[.agg #[.string xs[0].key,.int .i64 xs[0].op,.slice jy xs[0].values.length ji]] wq fun e w'=>e = .returned (.bool (uh xs[0]))∧Below wq.heap.size wq w' :=
       fun wq hq=>Rx xs[0] _ _ _ (aJ hr0 hq) hs1 hs2 hs3
      rw [h1] at hK
      have NOK:=Lib.hid hK
      clear hK
      first
       | have HN:=Lib.hid (gq hall.out hp)
       | have HF:=Lib.hid (wU (most:=4) hlt hp)
      clear h1 hp
      go_wp2_with fail
      refine aF _ (by kernel_rfl) (by kernel_rfl) (aj _) ?_
      repeat (first
       | (apply aG
          case hw=>rfl
          simp only [Act.put,pz])
       | (apply aH
          case hw=>rfl
          case h =>
           exact Zabc
          simp only [Act.put,pz]))
      refine aN ?_
      intro wn hn
      replace hn:=hn.out
      go_wp2
      first
       | exact ⟨⟨0+1,by omega,by go_num,HN.out,ah hbl hn⟩,by simp [intOf];omega⟩
       | (go_ret;exact ⟨by unfold aeH;rw [HF.out];rfl,ah hbl hn⟩)
    ·obtain ⟨b,o,ck,Fk,rfl,o9,hbs,hr,hsub,hc⟩:=(Sl.ext (w':=wr) (A:=A) (c:=c) h hbl).get hlt
     have hr0:=hr
     obtain ⟨jy,ji,Bo,hck,su,hkey,hop,kV⟩:=og hr
     subst hck
     have q0:wr.cell? ⟨b,o+(j+1) * 3,none⟩ = some (.string xs[j+1].key):=by exact hc 0 _ rfl
     have q1:wr.cell? ⟨b,o+(j+1) * 3+1,none⟩ = some (.int .i64 xs[j+1].op):=by rw [Nat.add_assoc];exact hc 1 _ rfl
     have q2:wr.cell? ⟨b,o+(j+1) * 3+2,none⟩ = some (.slice jy xs[j+1].values.length ji):=by rw [Nat.add_assoc];exact hc 2 _ rfl
     clear hc
     obtain ⟨b',o',TY,Xw,e,Ht,hbs',hr',zQ,hc'⟩:=Sl.get (Sl.ext (w':=wr) (c:=c) h hbl) (show j < xs.length by omega)
     have QS:=hr'
     obtain ⟨qO,qP,KL,jU,abT,vC,hop2,zS⟩:=og hr'
     subst jU
     obtain ⟨rfl,rfl⟩:b' = b∧o' = o:=by simpa using e.symm
     clear e
     have p0:wr.cell? ⟨b',o'+j * 3,none⟩ = some (.string xs[j].key):=by exact hc' 0 _ rfl
     have p1:wr.cell? ⟨b',o'+j * 3+1,none⟩ = some (.int .i64 xs[j].op):=by rw [Nat.add_assoc];exact hc' 1 _ rfl
     have p2:wr.cell? ⟨b',o'+j * 3+2,none⟩ = some (.slice qO xs[j].values.length qP):=by rw [Nat.add_assoc];exact hc' 2 _ rfl
     clear hc'
     have hwj:IntKind.i64.wrap (j:Int) = j:=IntWalk.i64_in _ (by omega)
     have hjl:j < xs.length:=by omega
     obtain ⟨hp1,hp2,hp3⟩:=Eo.out xs[j] (List.getElem_mem ..)
     obtain ⟨hs1,hs2,hs3⟩:=Eo.out xs[j+1] (List.getElem_mem ..)
     cases h1:uh xs[j+1] <;> cases h3:nD xs[j] xs[j+1]
     all_goals
      have hp:=yS (ok:=uh) (less:=nD) hlt
      rw [h1,h3] at hp
      try simp only [Bool.false_and,Bool.and_false,Bool.and_true,Bool.and_self] at hp
      change rowAt uh nD xs _ = _ at hp
      have hK:∀wq,Below wr.heap.size wr wq→Calls Tryz.prog 114 #[.agg #[.string xs[j+1].key,.int .i64 xs[j+1].op,.slice jy xs[j+1].values.length ji]] wq fun e w'=>e = .returned (.bool (uh xs[j+1]))∧Below wq.heap.size wq w' :=
       fun wq hq=>Rx xs[j+1] _ _ _ (aJ hr0 hq) hs1 hs2 hs3
      rw [h1] at hK
      have NOK:=Lib.hid hK
      clear hK
      first
       | have HN:=Lib.hid (gq hall.out hp)
       | have HF:=Lib.hid (wU (most:=4) hlt hp)
      have hC:∀wq,Below wr.heap.size wr wq→Calls Tryz.prog 115 #[.agg #[.string xs[j].key,.int .i64 xs[j].op,.slice qO xs[j].values.length qP],.agg #[.string xs[j+1].key,.int .i64 xs[j+1].op,.slice jy xs[j+1].values.length ji]] wq fun e w'=>e = .returned (.bool (nD xs[j] xs[j+1]))∧Below wq.heap.size wq w' :=
       fun wq hq=>TN xs[j] xs[j+1] _ _ _ _ _ (aJ QS hq) (aJ hr0 hq) hp2 hs2
      rw [h3] at hC
      have CMP:=Lib.hid hC
      clear hC
      clear h1 hp
      go_wp2_with fail
      refine aF _ (by kernel_rfl) (by kernel_rfl) (aj _) ?_
      repeat (first
       | (apply aG
          case hw=>rfl
          simp only [Act.put,pz])
       | (apply aH
          case hw=>rfl
          case h =>
           exact Zabc
          simp only [Act.put,pz]))
      refine aN ?_
      intro wn hn
      replace hn:=hn.out
      go_wp2
      first
       | exact ⟨⟨j+1+1,by omega,by go_num,HN.out,ah hbl hn⟩,by simp [intOf];omega⟩
       | (go_ret;exact ⟨by unfold aeH;rw [HF.out];rfl,ah hbl hn⟩)
   ·have hkl:k = xs.length:=by omega
    subst hkl
    have HF:=Lib.hid (Jy hm hall.out)
    go_wp2
    go_ret
    exact ⟨by unfold aeH;rw [HF.out];rfl,hbl⟩
 ·have HF:=Lib.hid (Jz (ok:=uh) (less:=nD) hm)
  go_enter Tryz.func77,Tryz.ntmps77
  go_wp2
  go_ret
  exact ⟨by unfold aeH;rw [HF.out];rfl,atS⟩
end Go.Proofs.YtogkjlcoadhpgaaGreat
