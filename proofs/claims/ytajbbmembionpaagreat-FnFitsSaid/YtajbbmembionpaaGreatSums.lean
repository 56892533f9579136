/- AddInt, SumInts, SumsOf, of the program and of the reference. No condition. -/
import Derived.Test.YtajbbmembionpaaGreatRows2
namespace Go.Proofs.YtajbbmembionpaaGreat
open Go.ChangeShapes Go.WideShapes Go.ChangeAt Go.RowKit
set_option linter.unusedVariables false
set_option linter.unusedSimpArgs false
set_option maxHeartbeats 1000000
set_option maxRecDepth 100000
def GX (a b:Int):Option Int:=if a < 0∨b < 0∨9223372036854775807 - b < a then none else some (a+b)
theorem K7 {a b t:Int} (h:GX a b = some t) (ha:bt a) (U:bt b):bt t:=by
 unfold GX at h;split at h
 ·cases h
 ·cases h
  unfold bt at *;omega
def GZ:List Int→Int→Option Int
 | [],s=>some s
 | x :: xs,s=>match GX s x with | none=>none | some m=>GZ xs m
theorem J9 (a b:Int) (w:World) (ha:bt a) (U:bt b):Calls Tryz.prog 90 #[.int .i64 a,.int .i64 b] w fun e w'=>e = .returned (.tuple #[.int .i64 ((GX a b).getD 0),.bool (GX a b).isSome])∧Below w.heap.size w w':=by
 obtain ⟨ZZ,ha1⟩:=ha;obtain ⟨gh,bp⟩:=U;by_cases Z:a < 0
 ·exact xL
 by_cases h2:b < 0
 ·exact xL
 by_cases h3:9223372036854775807 - b < a
 ·exact xL
 ·have e:GX a b = some (a+b):=by unfold GX;rw [if_neg J]
  rw [e];go_enter Tryz.func90,Tryz.ntmps90;go_wp2;go_returns
  exact ⟨rfl,aj _⟩
theorem oQ (a b:Int) (w:World) (ha:bt a) (U:bt b):Calls Tryz.prog 130 #[.int .i64 a,.int .i64 b] w fun e w'=>e = .returned (.tuple #[.int .i64 ((GX a b).getD 0),.bool (GX a b).isSome])∧Below w.heap.size w w':=by
 obtain ⟨ZZ,ha1⟩:=ha;obtain ⟨gh,bp⟩:=U;by_cases Z:a < 0
 ·exact xH
 by_cases h2:b < 0
 ·exact xH
 by_cases h3:9223372036854775807 - b < a
 ·exact xH
 ·have e:GX a b = some (a+b):=by unfold GX;rw [if_neg J]
  rw [e];go_enter Tryz.func130,Tryz.ntmps130;go_wp2;go_returns
  exact ⟨rfl,aj _⟩
theorem SO (xs:List Int) (A:Option Addr) (n c:Nat) (F:List Nat) (w:World) (h:Sl w xs A c F) (X:n = xs.length) (hl:(xs.length:Int)≤1048576) :
 Calls Tryz.prog 131 #[.slice A n c] w fun e w'=>e = .returned (.tuple #[.int .i64 ((GZ xs 0).getD 0),.bool (GZ xs 0).isSome])∧Below w.heap.size w w':=by
 subst X;go_enter Tryz.func131,Tryz.ntmps131;go_wp2_with fail
 go_loopw [4,11] (fun x i wr=>∃(k:Nat) (s:Int),k≤xs.length∧i = .int .i64 k∧x = .int .i64 s∧bt s∧Hid (GZ xs 0 = GZ (xs.drop k) s)∧Below w.heap.size w wr) (fun _ i _=>xs.length - (intOf i).toNat)
 case atStart=>exact ⟨0,0,Nat.zero_le _,rfl,rfl,⟨by decide,by decide⟩,rfl,aj _⟩
 case round =>
  obtain ⟨k,s,hk,rfl,rfl,hs,HS,aK⟩:=hrel;by_cases av:k < xs.length
  ·obtain ⟨b,o,ck,Fk,rfl,o9,hbs,hr,bA,hc⟩:=(Sl.ext (w':=wr) (A:=A) (c:=c) h aK).get av;obtain ⟨aD,su,hI⟩:=hr;subst aD su;have q0:wr.cell? ⟨b,o+k,none⟩ = some (.int .i64 xs[k]):=(by have:=hc 0 _ rfl;rwa [show o+(k * bb.size Int+0) = o+k from by show o+(k * 1+0) = _;omega] at this);clear hc;have ti:GZ (xs.drop k) s = GZ (xs[k] :: xs.drop (k+1)) s:=(by rw [List.getElem_cons_drop]);have yl:=hs;have ym:=hI;generalize hxk:xs[k] = y at *;cases ha:GX s y with
   | none =>
     have hf:GZ xs 0 = none:=(by rw [HS.out,ti,GZ,ha]);have HF:=I hf;clear hf ti;have HA:=I ha;clear ha;go_wp2_with (go_at_call 90;refine (J9 s y _ yl ym).mono ?_;rw [HA.out];rintro e w2 ⟨rfl,aq⟩)
     go_returns
     exact ⟨by rw [HF.out];rfl,ah aK aq⟩
   | some t =>
     have hf:GZ xs 0 = GZ (xs.drop (k+1)) t:=(by rw [HS.out,ti,GZ,ha]);have HF:=I hf;have Ng:=K7 ha yl ym;clear hf ti;have HA:=I ha;clear ha;go_wp2_with (go_at_call 90;refine (J9 s y _ yl ym).mono ?_;rw [HA.out];rintro e w2 ⟨rfl,aq⟩)
     exact ⟨⟨k+1,t,J,N',rfl,Ng,HF.out,ah aK aq⟩,by simp [intOf];omega⟩
  ·exact D1
theorem SP (xs:List Int) (A:Option Addr) (n c:Nat) (F:List Nat) (w:World) (h:Sl w xs A c F) (X:n = xs.length) (hl:(xs.length:Int)≤1048576) :
 Calls Tryz.prog 140 #[.slice A n c] w fun e w'=>e = .returned (.tuple #[.int .i64 ((GZ xs 0).getD 0),.bool (GZ xs 0).isSome])∧Below w.heap.size w w':=by
 subst X;go_enter Tryz.func140,Tryz.ntmps140;go_wp2_with fail
 go_loopw [4,5] (fun x i wr=>∃(k:Nat) (s:Int),k≤xs.length∧i = .int .i64 k∧x = .int .i64 s∧bt s∧Hid (GZ xs 0 = GZ (xs.drop k) s)∧Below w.heap.size w wr) (fun _ i _=>xs.length - (intOf i).toNat)
 case atStart=>exact ⟨0,0,Nat.zero_le _,rfl,rfl,⟨by decide,by decide⟩,rfl,aj _⟩
 case round =>
  obtain ⟨k,s,hk,rfl,rfl,hs,HS,aK⟩:=hrel;by_cases av:k < xs.length
  ·obtain ⟨b,o,ck,Fk,rfl,o9,hbs,hr,bA,hc⟩:=(Sl.ext (w':=wr) (A:=A) (c:=c) h aK).get av;obtain ⟨aD,su,hI⟩:=hr;subst aD su;have q0:wr.cell? ⟨b,o+k,none⟩ = some (.int .i64 xs[k]):=(by have:=hc 0 _ rfl;rwa [show o+(k * bb.size Int+0) = o+k from by show o+(k * 1+0) = _;omega] at this);clear hc;have ti:GZ (xs.drop k) s = GZ (xs[k] :: xs.drop (k+1)) s:=(by rw [List.getElem_cons_drop]);have yl:=hs;have ym:=hI;generalize hxk:xs[k] = y at *;cases ha:GX s y with
   | none =>
     have hf:GZ xs 0 = none:=(by rw [HS.out,ti,GZ,ha]);have HF:=I hf;clear hf ti;have HA:=I ha;clear ha;go_wp2_with (go_at_call 130;refine (oQ s y _ yl ym).mono ?_;rw [HA.out];rintro e w2 ⟨rfl,aq⟩)
     go_returns
     exact ⟨by rw [HF.out];rfl,ah aK aq⟩
   | some t =>
     have hf:GZ xs 0 = GZ (xs.drop (k+1)) t:=(by rw [HS.out,ti,GZ,ha]);have HF:=I hf;have Ng:=K7 ha yl ym;clear hf ti;have HA:=I ha;clear ha;go_wp2_with (go_at_call 130;refine (oQ s y _ yl ym).mono ?_;rw [HA.out];rintro e w2 ⟨rfl,aq⟩)
     exact ⟨⟨k+1,t,J,N',rfl,Ng,HF.out,ah aK aq⟩,by simp [intOf];omega⟩
  ·exact D1
def vU (xs:List nI):Option (Int × Int) :=
 match GZ (xs.map nI.az) 0,GZ (xs.map nI.mem) 0 with
 | some a,some b=>some (a,b)
 | _,_=>none
def FN:Option (Int × Int)→Value
 | some (a,b)=>.tuple #[.int .i64 a,.int .i64 b,.bool true]
 | none=>.tuple #[.int .i64 0,.int .i64 0,.bool false]
def iv (xs:List Int):List Value:=xs.map fun n=>.int .i64 n
theorem RL {α:Type} (f:α→Int) (xs:List α) (k:Nat) (h:k < xs.length):iv ((xs.take (k+1)).map f) = iv ((xs.take k).map f)++[.int .i64 (f xs[k])]:=by
 unfold iv;rw [List.take_succ_eq_append_getElem h,List.map_append,List.map_append];rfl
theorem Sl.SQ {w:World} {xs:List nI} {A:Option Addr} {c:Nat} {F:List Nat} (h:Sl w xs A c F):∀p∈xs,bt p.az∧bt p.mem∧bt p.aw:=by
 intro p hp;obtain ⟨k,hk,rfl⟩:=List.getElem_of_mem hp;obtain ⟨b,o,ck,Fk,_,_,_,hr,_,_⟩:=h.get hk;obtain ⟨gu,gy,jw,oh,nT,wG,fA,fB,jY,rfl,rfl,hname,dO,vg,cG,BJ,mX,eG⟩:=dL hr;exact ⟨vg,cG,BJ⟩
theorem Z0 (xs:List nI) (A:Option Addr) (n c:Nat) (F:List Nat) (w:World) (h:Sl w xs A c F) (X:n = xs.length) (hl:(xs.length:Int)≤1048576) :
 Calls Tryz.prog 85 #[.slice A n c] w fun e w'=>e = .returned (FN (vU xs))∧Below w.heap.size w w':=by
 subst X;have hI:=I h.SQ;go_enter Tryz.func85,Tryz.ntmps85;go_wp2_with fail
 go_loopw [5,6,17] (fun u v i wr=>∃(k:Nat),k≤xs.length∧i = .int .i64 k∧wr.ownsRow w.heap.size 3 1 u k (iv ((xs.take k).map nI.az))∧wr.ownsRow w.heap.size 3 1 v k (iv ((xs.take k).map nI.mem))∧DK u v∧Below w.heap.size w wr) (fun _ _ i _=>xs.length - (intOf i).toNat)
 case atStart =>exact DT
 case round =>
  obtain ⟨k,hk,rfl,hu,hv,mN,aK⟩:=hrel;have Ni:=hu.lt;by_cases av:k < xs.length
  ·obtain ⟨b,o,ck,Fk,rfl,o9,hbs,hr,bA,hc⟩:=(Sl.ext (w':=wr) (A:=A) (c:=c) h aK).get av;have yn:=h.lt b o9;obtain ⟨gu,gy,jw,oh,nT,wG,fA,fB,jY,aD,su,hname,dO,vg,cG,BJ,mX,eG⟩:=dL hr;subst aD;obtain ⟨q0,q1,q2,q3,q4,q5,q6⟩:=RN 7 hc;clear hc
   go_wp2_with (first
    | (at_builtin
       refine uf Be M _ _ M _ _ _ _ _ (hu.alloc _) M [.int .i64 xs[k].az] iN M et J J KA ?_;intro u2 w2 b8 fe cC K8;have bX:some wr.heap.size≠u5.ownBlock:=(by intro e;have:=hu.lt _ e.symm;omega);have p3:w2.cell? ⟨wr.heap.size,3,none⟩ = some (.int .i64 xs[k].mem):=fe.cell KM bX;have aq:Below w.heap.size w w2:=lS (hu.alloc _) fe (ak aK _) KA;have gj:=(hv.alloc _).kept fe mN.symm
       have qg:=mN.grow (N:=_) hv (by simp;omega) K8)
    | (at_builtin
       refine uf Be M _ _ M _ _ _ _ _ gj M [.int .i64 xs[k].mem] iN M et J J (aq.size) ?_;intro v2 w3 kk nW dm tj;have bv:=b8.kept nW qg;have Er:DK v2 u2:=qg.symm.grow (N:=_) b8 J tj
       have bd:=lS gj nW aq aq.size))
   exact El
  ·have bI:k = xs.length:=J;subst bI;rw [List.take_length] at hu hv;obtain ⟨Au,cu,Gu,rfl,hsu⟩:=Sl.oJ (xs:=xs.map nI.az) (by rw [List.length_map];exact hu) (Fv wr _ (by intro y hy;obtain ⟨p,hp,rfl⟩:=List.mem_map.1 hy;exact (hI.out p hp).1));obtain ⟨Av,cv,Gv,rfl,hsv⟩:=Sl.oJ (xs:=xs.map nI.mem) (by rw [List.length_map];exact hv) (Fv wr _ (by intro y hy;obtain ⟨p,hp,rfl⟩:=List.mem_map.1 hy;exact (hI.out p hp).2.1));clear hu hv mN;rcases gN:GZ (xs.map nI.az) 0 with _ | a <;> rcases g0:GZ (xs.map nI.mem) 0 with _ | b
   all_goals
    have bB:vU xs = _:=(by unfold vU;rw [gN,g0]);have HF:=I bB;have R1:=I gN;have R2:=I g0;clear gN g0 bB;go_wp2_with fail
    refine (SO (xs.map nI.az) Au _ cu Gu _ hsu S' KQ).mono ?_;rw [R1.out];rintro e w2 ⟨rfl,aq⟩;go_wp2_with fail
    refine (SO (xs.map nI.mem) Av _ cv Gv _ (hsv.ext aq) S' KQ).mono ?_;rw [R2.out];rintro e w3 ⟨rfl,bd⟩;go_wp2;go_returns
    exact ⟨by rw [HF.out];rfl,ah (ah aK aq) bd⟩
theorem SR (xs:List nI) (A:Option Addr) (n c:Nat) (F:List Nat) (w:World) (h:Sl w xs A c F) (X:n = xs.length) (hl:(xs.length:Int)≤1048576) :
 Calls Tryz.prog 93 #[.slice A n c] w fun e w'=>e = .returned (FN (vU xs))∧Below w.heap.size w w':=by
 subst X;have hI:=I h.SQ;go_enter Tryz.func93,Tryz.ntmps93;go_wp2_with fail
 go_loopw [5,6,7] (fun u v i wr=>∃(k:Nat),k≤xs.length∧i = .int .i64 k∧wr.ownsRow w.heap.size 3 1 u k (iv ((xs.take k).map nI.az))∧wr.ownsRow w.heap.size 3 1 v k (iv ((xs.take k).map nI.mem))∧DK u v∧Below w.heap.size w wr) (fun _ _ i _=>xs.length - (intOf i).toNat)
 case atStart =>exact DT
 case round =>
  obtain ⟨k,hk,rfl,hu,hv,mN,aK⟩:=hrel;have Ni:=hu.lt;by_cases av:k < xs.length
  ·obtain ⟨b,o,ck,Fk,rfl,o9,hbs,hr,bA,hc⟩:=(Sl.ext (w':=wr) (A:=A) (c:=c) h aK).get av;have yn:=h.lt b o9;obtain ⟨gu,gy,jw,oh,nT,wG,fA,fB,jY,aD,su,hname,dO,vg,cG,BJ,mX,eG⟩:=dL hr;subst aD;obtain ⟨q0,q1,q2,q3,q4,q5,q6⟩:=RN 7 hc;clear hc
   go_wp2_with (first
    | (at_builtin
       refine uf Be M _ _ M _ _ _ _ _ hu M [.int .i64 xs[k].az] iN M et J J (aK.size) ?_;intro u2 w2 b8 fe cC K8;have bX:some b≠u5.ownBlock:=(by intro e;have:=hu.lt _ e.symm;omega);replace q3:=fe.cell q3 bX;have aq:Below w.heap.size w w2:=lS hu fe aK aK.size;have gj:=hv.kept fe mN.symm
       have qg:=mN.grow (N:=_) hv J K8)
    | (at_builtin
       refine uf Be M _ _ M _ _ _ _ _ gj M [.int .i64 xs[k].mem] iN M et J J (aq.size) ?_;intro v2 w3 kk nW dm tj;have bv:=b8.kept nW qg;have Er:DK v2 u2:=qg.symm.grow (N:=_) b8 J tj
       have bd:=lS gj nW aq aq.size))
   exact El
  ·have bI:k = xs.length:=J;subst bI;rw [List.take_length] at hu hv;obtain ⟨Au,cu,Gu,rfl,hsu⟩:=Sl.oJ (xs:=xs.map nI.az) (by rw [List.length_map];exact hu) (Fv wr _ (by intro y hy;obtain ⟨p,hp,rfl⟩:=List.mem_map.1 hy;exact (hI.out p hp).1));obtain ⟨Av,cv,Gv,rfl,hsv⟩:=Sl.oJ (xs:=xs.map nI.mem) (by rw [List.length_map];exact hv) (Fv wr _ (by intro y hy;obtain ⟨p,hp,rfl⟩:=List.mem_map.1 hy;exact (hI.out p hp).2.1));clear hu hv mN;rcases gN:GZ (xs.map nI.az) 0 with _ | a <;> rcases g0:GZ (xs.map nI.mem) 0 with _ | b
   all_goals
    have bB:vU xs = _:=(by unfold vU;rw [gN,g0]);have HF:=I bB;have R1:=I gN;have R2:=I g0;clear gN g0 bB;go_wp2_with fail
    refine (SP (xs.map nI.az) Au _ cu Gu _ hsu S' KQ).mono ?_;rw [R1.out];rintro e w2 ⟨rfl,aq⟩;go_wp2_with fail
    refine (SP (xs.map nI.mem) Av _ cv Gv _ (hsv.ext aq) S' KQ).mono ?_;rw [R2.out];rintro e w3 ⟨rfl,bd⟩;go_wp2;go_returns
    exact ⟨by rw [HF.out];rfl,ah (ah aK aq) bd⟩
def i' (nm:ByteArray) (p:ag):Bool:=!(nm.toList == [])&&(p.on.toList == nm.toList)
def F7 (nm:ByteArray) (xs:List ag):List nI:=(xs.filter (i' nm)).map ag.aS
theorem K9 {nm:ByteArray} {xs:List ag} {k:Nat} (h:k < xs.length) (hp:i' nm xs[k] = true):F7 nm (xs.take (k+1)) = F7 nm (xs.take k)++[xs[k].aS]:=by
 unfold F7;rw [List.take_succ_eq_append_getElem h,List.filter_append,List.map_append];simp [hp]
theorem YC {nm:ByteArray} {xs:List ag} {k:Nat} (h:k < xs.length) (hp:i' nm xs[k] = false):F7 nm (xs.take (k+1)) = F7 nm (xs.take k):=by
 unfold F7;rw [List.take_succ_eq_append_getElem h,List.filter_append,List.map_append];simp [hp]
theorem NK (nm:ByteArray) (xs:List ag):(F7 nm xs).length≤xs.length:=by unfold F7;rw [List.length_map];exact List.length_filter_le _ _
theorem SU (nm:ByteArray) (xs:List ag) (k:Nat):(F7 nm (xs.take k)).length≤k:=Nat.le_trans (NK _ _) MJ
theorem SV (nm:ByteArray) (xs:List ag) (h:nm.toList = []):F7 nm xs = []:=by
 unfold F7 i';simp [h]
def KF (nm:ByteArray) (xs:List ag):Value :=
 match vU (F7 nm xs) with
 | some (a,b)=>.tuple #[.int .i64 a,.int .i64 b,.int .i64 (F7 nm xs).length,.bool true]
 | none=>.tuple #[.int .i64 0,.int .i64 0,.int .i64 0,.bool false]
theorem Z1:(Tryz.prog.info? 35).map (fun i=>(i.zero,i.size,i.bytes)) = some (some (.agg #[.string ⟨#[]⟩,.slice none 0 0,.int .i64 0,.int .i64 0,.int .i64 0,.slice none 0 0,.slice none 0 0]),7,112):=by kernel_rfl
theorem SW:DL Tryz.prog 121 35 (.agg #[.string ⟨#[]⟩,.slice none 0 0,.int .i64 0,.int .i64 0,.int .i64 0,.slice none 0 0,.slice none 0 0]) 7 112:=⟨Tryz.underlying121,Z1,rfl,J⟩
theorem iQ (x:aU) (cs:List Value) (F:List Nat) (nm:ByteArray) (w:World) (h:rd w x cs F) (hl:(x.O.length:Int)≤1048576) :
 Calls Tryz.prog 43 #[.agg cs.toArray,.string nm] w fun e w'=>e = .returned (KF nm x.O)∧Below w.heap.size w w':=by
 obtain ⟨bG,bD,fQ,dn,bW,jg,aD,qp,bQ,dM,hnext,aV,aP,aW⟩:=aO h;subst aD;clear qp;go_enter Tryz.func43,Tryz.ntmps43;go_wp2_with fail
 go_loopw [8,18] (fun v i wr=>∃(k:Nat) (ds:List Value) (G:List Nat),k≤x.O.length∧i = .int .i64 k∧wr.ownsRow (w.heap.size+1) 35 7 v (F7 nm (x.O.take k)).length ds∧jo w (F7 nm (x.O.take k)) ds G∧wr.cell? ⟨w.heap.size,1,none⟩ = some (.slice dn x.O.length bW)∧Below w.heap.size w wr) (fun _ i _=>x.O.length - (intOf i).toNat)
 case atStart =>exact DE
 case round =>
  obtain ⟨k,ds,G,hk,rfl,bi,cA,hqc,aK⟩:=hrel;have FO:w.heap.size < wr.heap.size:=World.block_lt_of_cell? wr _ hqc;by_cases av:k < x.O.length
  ·have s7:=SU nm x.O k;have Nn:some w.heap.size≠u8.ownBlock:=(by intro e;have:=bi.lt _ e.symm;omega);obtain ⟨b,o,ck,Fk,rfl,o9,hbs,hr,bA,hc⟩:=Sl.get (α:=ag) (A:=dn) (c:=bW) dM av;obtain ⟨c1,c2,F1,F2,rfl,rfl,QS,_,_,_,_,rfl,rfl,⟨rfl,rfl,gO⟩,⟨rfl,rfl,hseq⟩⟩:=hr;have r7:=QS;obtain ⟨gV,gW,lF,iR,iT,mV,dD,dF,iH,aD,su,nY,iE,rF,rG,oZ,je,dN⟩:=dL QS;subst aD;clear su QS iE je dN;obtain ⟨q0,q1,q2,q3,q4,q5,q6,q7,q8⟩:=vN 9 hc;clear hc;replace q0:=r' aK q0 hbs;replace q1:=r' aK q1 hbs;replace q2:=r' aK q2 hbs;replace q3:=r' aK q3 hbs;replace q4:=r' aK q4 hbs;replace q5:=r' aK q5 hbs;replace q6:=r' aK q6 hbs;replace q7:=r' aK q7 hbs;replace q8:=r' aK q8 hbs;cases dq:(nm.toList == []) <;> cases cR:(x.O[k].on.toList == nm.toList)
   all_goals
    have hp:i' nm x.O[k] = _:=RT;simp only [Bool.not_true,Bool.not_false,Bool.true_and,Bool.false_and] at hp;have HP:=I hp;clear hp
    go_wp2_with (
     at_builtin
     go_must (refine lC SW M _ _ M _ _ _ _ _ (bi.alloc _) M [.string x.O[k].aS.name,.slice gV x.O[k].aS.labels.length gW,.int .i64 x.O[k].aS.az,.int .i64 x.O[k].aS.mem,.int .i64 x.O[k].aS.aw,.slice iR x.O[k].aS.ai.length iT,.slice dD x.O[k].aS.ae.length dF] iN M et J J RQ ?_)
     intro v2 w2 dB fe cC;go_must (have aq:Below w.heap.size w w2:=lS (B:=w.heap.size) ((vP bi (Nat.le_succ _)).alloc _) fe (ak aK _) KA)
     go_must (have K':=fe.cell ((World.cell?_of_block (heap_alloc_old wr _ J)).trans hqc) Nn))
    first
     | exact ⟨⟨k+1,_,_,J,N',(by rw [YC av HP.out];exact bi),KS,hqc,aK⟩,by simp [intOf];omega⟩
     | exact ⟨⟨k+1,_,_,J,N',(by rw [K9 av HP.out,List.length_append];exact dB),(by rw [K9 av HP.out];exact cA.append (.single r7)),K',aq⟩,by simp [intOf];omega⟩
     | exact ⟨⟨k+1,_,_,J,N',(by rw [YC av HP.out];exact bi.alloc _),KS,(World.cell?_of_block (heap_alloc_old wr _ J)).trans hqc,ak aK _⟩,by simp [intOf];omega⟩
  ·have bI:k = x.O.length:=J;subst bI;rw [List.take_length] at bi cA;obtain ⟨Al,cl,Gl,rfl,j0⟩:=Sl.oJ bi (cA.frame (fun b U=>aK.block b (cA.lt b U)) aK.size);have s7:=NK nm x.O;clear bi cA;rcases gN:vU (F7 nm x.O) with _ | ⟨a,b⟩
   all_goals
    have bB:KF nm x.O = _:=MM;have HF:=I bB;have R1:=I gN;clear gN bB;go_wp2_with fail
    refine (Z0 (F7 nm x.O) Al _ cl Gl _ j0 rfl J).mono ?_;rw [R1.out];simp only [FN];rintro e w2 ⟨rfl,aq⟩;go_wp2;go_returns
    exact ⟨by rw [HF.out],ah aK aq⟩
theorem jm (x:aU) (cs:List Value) (F:List Nat) (nm:ByteArray) (w:World) (h:rd w x cs F) (hl:(x.O.length:Int)≤1048576) :
 Calls Tryz.prog 52 #[.agg cs.toArray,.string nm] w fun e w'=>e = .returned (KF nm x.O)∧Below w.heap.size w w':=by
 obtain ⟨bG,bD,fQ,dn,bW,jg,aD,qp,bQ,dM,hnext,aV,aP,aW⟩:=aO h;subst aD;clear qp;go_enter Tryz.func52,Tryz.ntmps52;go_wp2_with fail
 go_loopw [8,9] (fun v i wr=>∃(k:Nat) (ds:List Value) (G:List Nat),k≤x.O.length∧i = .int .i64 k∧wr.ownsRow (w.heap.size+1) 35 7 v (F7 nm (x.O.take k)).length ds∧jo w (F7 nm (x.O.take k)) ds G∧wr.cell? ⟨w.heap.size,1,none⟩ = some (.slice dn x.O.length bW)∧Below w.heap.size w wr) (fun _ i _=>x.O.length - (intOf i).toNat)
 case atStart =>exact DE
 case round =>
  obtain ⟨k,ds,G,hk,rfl,bi,cA,hqc,aK⟩:=hrel;have FO:w.heap.size < wr.heap.size:=World.block_lt_of_cell? wr _ hqc;cases dq:(nm.toList == []) with
  | true =>
    have he:nm.toList = []:=(by simpa using dq);rw [SV nm _ he,← SV nm x.O he] at bi cA;by_cases av:k < x.O.length
    all_goals
     obtain ⟨Al,cl,Gl,rfl,j0⟩:=Sl.oJ bi (cA.frame (fun b U=>aK.block b (cA.lt b U)) aK.size);have s7:=NK nm x.O;clear bi cA;rcases gN:vU (F7 nm x.O) with _ | ⟨a,b⟩
     all_goals
      have bB:KF nm x.O = _:=MM;have HF:=I bB;have R1:=I gN;clear gN bB;go_wp2_with fail
      refine (SR (F7 nm x.O) Al _ cl Gl _ j0 rfl J).mono ?_;rw [R1.out];simp only [FN];rintro e w2 ⟨rfl,aq⟩;go_wp2;go_returns
      exact ⟨by rw [HF.out],ah aK aq⟩
  | false =>
    by_cases av:k < x.O.length
    ·have s7:=SU nm x.O k;have Nn:some w.heap.size≠u8.ownBlock:=(by intro e;have:=bi.lt _ e.symm;omega);obtain ⟨b,o,ck,Fk,rfl,o9,hbs,hr,bA,hc⟩:=Sl.get (α:=ag) (A:=dn) (c:=bW) dM av;obtain ⟨c1,c2,F1,F2,rfl,rfl,QS,_,_,_,_,rfl,rfl,⟨rfl,rfl,gO⟩,⟨rfl,rfl,hseq⟩⟩:=hr;have r7:=QS;obtain ⟨gV,gW,lF,iR,iT,mV,dD,dF,iH,aD,su,nY,iE,rF,rG,oZ,je,dN⟩:=dL QS;subst aD;clear su QS iE je dN;obtain ⟨q0,q1,q2,q3,q4,q5,q6,q7,q8⟩:=vN 9 hc;clear hc;replace q0:=r' aK q0 hbs;replace q1:=r' aK q1 hbs;replace q2:=r' aK q2 hbs;replace q3:=r' aK q3 hbs;replace q4:=r' aK q4 hbs;replace q5:=r' aK q5 hbs;replace q6:=r' aK q6 hbs;replace q7:=r' aK q7 hbs;replace q8:=r' aK q8 hbs;cases cR:(x.O[k].on.toList == nm.toList)
     all_goals
      have hp:i' nm x.O[k] = _:=RT;simp only [Bool.not_true,Bool.not_false,Bool.true_and,Bool.false_and] at hp;have HP:=I hp;clear hp
      go_wp2_with (
       at_builtin
       go_must (refine lC SW M _ _ M _ _ _ _ _ bi M [.string x.O[k].aS.name,.slice gV x.O[k].aS.labels.length gW,.int .i64 x.O[k].aS.az,.int .i64 x.O[k].aS.mem,.int .i64 x.O[k].aS.aw,.slice iR x.O[k].aS.ai.length iT,.slice dD x.O[k].aS.ae.length dF] iN M et J J RQ ?_)
       intro v2 w2 dB fe cC;go_must (have aq:Below w.heap.size w w2:=lS (vP bi (Nat.le_succ _)) fe aK aK.size)
       go_must (have K':=fe.cell hqc Nn))
      first
       | exact ⟨⟨k+1,_,_,J,N',(by rw [YC av HP.out];exact bi),KS,hqc,aK⟩,by simp [intOf];omega⟩
       | exact ⟨⟨k+1,_,_,J,N',(by rw [K9 av HP.out,List.length_append];exact dB),(by rw [K9 av HP.out];exact cA.append (.single r7)),K',aq⟩,by simp [intOf];omega⟩
       | exact ⟨⟨k+1,_,_,J,N',(by rw [YC av HP.out];exact bi.alloc _),KS,(World.cell?_of_block (heap_alloc_old wr _ J)).trans hqc,ak aK _⟩,by simp [intOf];omega⟩
    ·have bI:k = x.O.length:=J;subst bI;rw [List.take_length] at bi cA;obtain ⟨Al,cl,Gl,rfl,j0⟩:=Sl.oJ bi (cA.frame (fun b U=>aK.block b (cA.lt b U)) aK.size);have s7:=NK nm x.O;clear bi cA;rcases gN:vU (F7 nm x.O) with _ | ⟨a,b⟩
     all_goals
      have bB:KF nm x.O = _:=MM;have HF:=I bB;have R1:=I gN;clear gN bB;go_wp2_with fail
      refine (SR (F7 nm x.O) Al _ cl Gl _ j0 rfl J).mono ?_;rw [R1.out];simp only [FN];rintro e w2 ⟨rfl,aq⟩;go_wp2;go_returns
      exact ⟨by rw [HF.out],ah aK aq⟩
end Go.Proofs.YtajbbmembionpaaGreat
