/- AddInt, SumInts, SumsOf, of the program and of the reference. No condition. -/
import Derived.Test.YtjahcnjmjahbaaaGreatNeedOk
namespace Go.Proofs.YtjahcnjmjahbaaaGreat
open Go.ChangeShapes Go.WideShapes Go.ChangeAt Go.RowKit
set_option linter.unusedVariables false
set_option linter.unusedSimpArgs false
set_option maxHeartbeats 1000000
set_option maxRecDepth 100000
def GX (a b:Int):Option Int:=if a < 0∨b < 0∨9223372036854775807 - b < a then none else some (a+b)
theorem PP {a b t:Int} (h:GX a b = some t) (ha:bv a) (hb:bv b):bv t:=by
 unfold GX at h;split at h
 ·cases h
 ·cases h
  unfold bv at *;omega
def GZ:List Int→Int→Option Int
 | [],s=>some s
 | x :: xs,s=>match GX s x with | none=>none | some m=>GZ xs m
theorem J9 (a b:Int) (w:World) (ha:bv a) (hb:bv b):Calls Tryz.prog 195 #[.int .i64 a,.int .i64 b] w fun e w'=>e = .returned (.tuple #[.int .i64 ((GX a b).getD 0),.bool (GX a b).isSome])∧Below w.heap.size w w':=by
 obtain ⟨Mk,ha1⟩:=ha;obtain ⟨ev,bm⟩:=hb;by_cases h1:a < 0
 ·exact Bj
 by_cases h2:b < 0
 ·exact Bj
 by_cases h3:9223372036854775807 - b < a
 ·exact Bj
 ·have e:GX a b = some (a+b):=by unfold GX;rw [if_neg O]
  rw [e];go_enter Tryz.func195,Tryz.ntmps195;go_wp2;go_returns
  exact ⟨rfl,aj _⟩
theorem oQ (a b:Int) (w:World) (ha:bv a) (hb:bv b):Calls Tryz.prog 172 #[.int .i64 a,.int .i64 b] w fun e w'=>e = .returned (.tuple #[.int .i64 ((GX a b).getD 0),.bool (GX a b).isSome])∧Below w.heap.size w w':=by
 obtain ⟨Mk,ha1⟩:=ha;obtain ⟨ev,bm⟩:=hb;by_cases h1:a < 0
 ·exact Bk
 by_cases h2:b < 0
 ·exact Bk
 by_cases h3:9223372036854775807 - b < a
 ·exact Bk
 ·have e:GX a b = some (a+b):=by unfold GX;rw [if_neg O]
  rw [e];go_enter Tryz.func172,Tryz.ntmps172;go_wp2;go_returns
  exact ⟨rfl,aj _⟩
theorem Zx (xs:List Int) (A:Option Addr) (n c:Nat) (F:List Nat) (w:World) (h:Sl w xs A c F) (hn:n = xs.length) (hl:(xs.length:Int)≤1048576) :
 Calls Tryz.prog 166 #[.slice A n c] w fun e w'=>e = .returned (.tuple #[.int .i64 ((GZ xs 0).getD 0),.bool (GZ xs 0).isSome])∧Below w.heap.size w w':=by
 subst hn;go_enter Tryz.func166,Tryz.ntmps166;go_wp2_with fail
 go_loopw [4,11] (fun x i wr=>∃(k:Nat) (s:Int),k≤xs.length∧i = .int .i64 k∧x = .int .i64 s∧bv s∧Hid (GZ xs 0 = GZ (xs.drop k) s)∧Below w.heap.size w wr) (fun _ i _=>xs.length - (intOf i).toNat)
 case atStart=>exact ⟨0,0,Nat.zero_le _,rfl,rfl,⟨by decide,by decide⟩,rfl,aj _⟩
 case round =>
  obtain ⟨k,s,hk,rfl,rfl,hs,HS,az⟩:=hrel;by_cases ap:k < xs.length
  ·obtain ⟨b,o,ck,Fk,rfl,o9,hbs,hr,br,hc⟩:=(Sl.ext (w':=wr) (A:=A) (c:=c) h az).get ap;obtain ⟨ax,su,hI⟩:=hr;subst ax su;have q0:wr.cell? ⟨b,o+k,none⟩ = some (.int .i64 xs[k]):=(by have:=hc 0 _ rfl;rwa [show o+(k * bk.size Int+0) = o+k from by show o+(k * 1+0) = _;omega] at this);clear hc;have fm:GZ (xs.drop k) s = GZ (xs[k] :: xs.drop (k+1)) s:=(by rw [List.getElem_cons_drop]);have Cf:=hs;have Cg:=hI;generalize PQ:xs[k] = y at *;cases ha:GX s y with
   | none =>
     have hf:GZ xs 0 = none:=(by rw [HS.out,fm,GZ,ha]);have HF:=I hf;clear hf fm;have HA:=I ha;clear ha;go_wp2_with (go_at_call 195;refine (J9 s y _ Cf Cg).mono ?_;rw [HA.out];rintro e w2 ⟨rfl,ao⟩)
     go_returns
     exact ⟨by rw [HF.out];rfl,ah az ao⟩
   | some t =>
     have hf:GZ xs 0 = GZ (xs.drop (k+1)) t:=(by rw [HS.out,fm,GZ,ha]);have HF:=I hf;have DZ:=PP ha Cf Cg;clear hf fm;have HA:=I ha;clear ha;go_wp2_with (go_at_call 195;refine (J9 s y _ Cf Cg).mono ?_;rw [HA.out];rintro e w2 ⟨rfl,ao⟩)
     exact ⟨⟨k+1,t,O,N',rfl,DZ,HF.out,ah az ao⟩,by simp [intOf];omega⟩
  ·exact JU
theorem Zy (xs:List Int) (A:Option Addr) (n c:Nat) (F:List Nat) (w:World) (h:Sl w xs A c F) (hn:n = xs.length) (hl:(xs.length:Int)≤1048576) :
 Calls Tryz.prog 143 #[.slice A n c] w fun e w'=>e = .returned (.tuple #[.int .i64 ((GZ xs 0).getD 0),.bool (GZ xs 0).isSome])∧Below w.heap.size w w':=by
 subst hn;go_enter Tryz.func143,Tryz.ntmps143;go_wp2_with fail
 go_loopw [4,5] (fun x i wr=>∃(k:Nat) (s:Int),k≤xs.length∧i = .int .i64 k∧x = .int .i64 s∧bv s∧Hid (GZ xs 0 = GZ (xs.drop k) s)∧Below w.heap.size w wr) (fun _ i _=>xs.length - (intOf i).toNat)
 case atStart=>exact ⟨0,0,Nat.zero_le _,rfl,rfl,⟨by decide,by decide⟩,rfl,aj _⟩
 case round =>
  obtain ⟨k,s,hk,rfl,rfl,hs,HS,az⟩:=hrel;by_cases ap:k < xs.length
  ·obtain ⟨b,o,ck,Fk,rfl,o9,hbs,hr,br,hc⟩:=(Sl.ext (w':=wr) (A:=A) (c:=c) h az).get ap;obtain ⟨ax,su,hI⟩:=hr;subst ax su;have q0:wr.cell? ⟨b,o+k,none⟩ = some (.int .i64 xs[k]):=(by have:=hc 0 _ rfl;rwa [show o+(k * bk.size Int+0) = o+k from by show o+(k * 1+0) = _;omega] at this);clear hc;have fm:GZ (xs.drop k) s = GZ (xs[k] :: xs.drop (k+1)) s:=(by rw [List.getElem_cons_drop]);have Cf:=hs;have Cg:=hI;generalize PQ:xs[k] = y at *;cases ha:GX s y with
   | none =>
     have hf:GZ xs 0 = none:=(by rw [HS.out,fm,GZ,ha]);have HF:=I hf;clear hf fm;have HA:=I ha;clear ha;go_wp2_with (go_at_call 172;refine (oQ s y _ Cf Cg).mono ?_;rw [HA.out];rintro e w2 ⟨rfl,ao⟩)
     go_returns
     exact ⟨by rw [HF.out];rfl,ah az ao⟩
   | some t =>
     have hf:GZ xs 0 = GZ (xs.drop (k+1)) t:=(by rw [HS.out,fm,GZ,ha]);have HF:=I hf;have DZ:=PP ha Cf Cg;clear hf fm;have HA:=I ha;clear ha;go_wp2_with (go_at_call 172;refine (oQ s y _ Cf Cg).mono ?_;rw [HA.out];rintro e w2 ⟨rfl,ao⟩)
     exact ⟨⟨k+1,t,O,N',rfl,DZ,HF.out,ah az ao⟩,by simp [intOf];omega⟩
  ·exact JU
def vU (xs:List nI):Option (Int × Int) :=
 match GZ (xs.map nI.aw) 0,GZ (xs.map nI.mem) 0 with
 | some a,some b=>some (a,b)
 | _,_=>none
def Ml:Option (Int × Int)→Value
 | some (a,b)=>.tuple #[.int .i64 a,.int .i64 b,.bool true]
 | none=>.tuple #[.int .i64 0,.int .i64 0,.bool false]
def iv (xs:List Int):List Value:=xs.map fun n=>.int .i64 n
theorem XD {α:Type} (f:α→Int) (xs:List α) (k:Nat) (h:k < xs.length):iv ((xs.take (k+1)).map f) = iv ((xs.take k).map f)++[.int .i64 (f xs[k])]:=by
 unfold iv;rw [List.take_succ_eq_append_getElem h,List.map_append,List.map_append];rfl
theorem Sl.ZC {w:World} {xs:List nI} {A:Option Addr} {c:Nat} {F:List Nat} (h:Sl w xs A c F):∀p∈xs,bv p.aw∧bv p.mem∧bv p.av:=by
 intro p hp;obtain ⟨k,hk,rfl⟩:=List.getElem_of_mem hp;obtain ⟨b,o,ck,Fk,_,_,_,hr,_,_⟩:=h.get hk;obtain ⟨gu,gy,jw,oh,nT,wG,fA,fB,jY,rfl,rfl,hname,dO,vg,cE,BJ,mX,eG⟩:=dL hr;exact ⟨vg,cE,BJ⟩
theorem am9 (xs:List nI) (A:Option Addr) (n c:Nat) (F:List Nat) (w:World) (h:Sl w xs A c F) (hn:n = xs.length) (hl:(xs.length:Int)≤1048576) :
 Calls Tryz.prog 117 #[.slice A n c] w fun e w'=>e = .returned (Ml (vU xs))∧Below w.heap.size w w':=by
 subst hn;have hI:=I h.ZC;go_enter Tryz.func117,Tryz.ntmps117;go_wp2_with fail
 go_loopw [5,6,17] (fun u v i wr=>∃(k:Nat),k≤xs.length∧i = .int .i64 k∧wr.ownsRow w.heap.size 3 1 u k (iv ((xs.take k).map nI.aw))∧wr.ownsRow w.heap.size 3 1 v k (iv ((xs.take k).map nI.mem))∧DK u v∧Below w.heap.size w wr) (fun _ _ i _=>xs.length - (intOf i).toNat)
 case atStart =>exact Jc
 case round =>
  obtain ⟨k,hk,rfl,hu,hv,nA,az⟩:=hrel;have Sx:=hu.lt;by_cases ap:k < xs.length
  ·obtain ⟨b,o,ck,Fk,rfl,o9,hbs,hr,br,hc⟩:=(Sl.ext (w':=wr) (A:=A) (c:=c) h az).get ap;have lI:=h.lt b o9;obtain ⟨gu,gy,jw,oh,nT,wG,fA,fB,jY,ax,su,hname,dO,vg,cE,BJ,mX,eG⟩:=dL hr;subst ax;obtain ⟨q0,q1,q2,q3,q4,q5,q6⟩:=XE 7 hc;clear hc
   go_wp2_with (first
    | (at_builtin
       refine uf PI Z _ _ Z _ _ _ _ _ (hu.alloc _) Z [.int .i64 xs[k].aw] ly Z e' O O L6 ?_;intro u2 w2 dC et cI PR;have cA:some wr.heap.size≠u5.ownBlock:=(by intro e;have:=hu.lt _ e.symm;omega);have p3:w2.cell? ⟨wr.heap.size,3,none⟩ = some (.int .i64 xs[k].mem):=et.cell Py cA;have ao:Below w.heap.size w w2:=lS (hu.alloc _) et (ak az _) L6;have eN:=(hv.alloc _).kept et nA.symm
       have sl:=nA.grow (N:=_) hv (by simp;omega) PR)
    | (at_builtin
       refine uf PI Z _ _ Z _ _ _ _ _ eN Z [.int .i64 xs[k].mem] ly Z e' O O (ao.size) ?_;intro v2 w3 iA mU ez vI;have cY:=dC.kept mU sl;have KY:DK v2 u2:=sl.symm.grow (N:=_) dC O vI
       have bd:=lS eN mU ao ao.size))
   exact KX
  ·have bz:k = xs.length:=O;subst bz;rw [List.take_length] at hu hv;obtain ⟨Au,cu,Gu,rfl,hsu⟩:=Sl.oJ (xs:=xs.map nI.aw) (by rw [List.length_map];exact hu) (Fv wr _ (by intro y hy;obtain ⟨p,hp,rfl⟩:=List.mem_map.1 hy;exact (hI.out p hp).1));obtain ⟨Av,cv,Gv,rfl,pl⟩:=Sl.oJ (xs:=xs.map nI.mem) (by rw [List.length_map];exact hv) (Fv wr _ (by intro y hy;obtain ⟨p,hp,rfl⟩:=List.mem_map.1 hy;exact (hI.out p hp).2.1));clear hu hv nA;rcases dc:GZ (xs.map nI.aw) 0 with _ | a <;> rcases dx:GZ (xs.map nI.mem) 0 with _ | b
   all_goals
    have bo:vU xs = _:=(by unfold vU;rw [dc,dx]);have HF:=I bo;have R1:=I dc;have R2:=I dx;clear dc dx bo;go_wp2_with fail
    refine (Zx (xs.map nI.aw) Au _ cu Gu _ hsu S' Pz).mono ?_;rw [R1.out];rintro e w2 ⟨rfl,ao⟩;go_wp2_with fail
    refine (Zx (xs.map nI.mem) Av _ cv Gv _ (pl.ext ao) S' Pz).mono ?_;rw [R2.out];rintro e w3 ⟨rfl,bd⟩;go_wp2;go_returns
    exact ⟨by rw [HF.out];rfl,ah (ah az ao) bd⟩
theorem ZD (xs:List nI) (A:Option Addr) (n c:Nat) (F:List Nat) (w:World) (h:Sl w xs A c F) (hn:n = xs.length) (hl:(xs.length:Int)≤1048576) :
 Calls Tryz.prog 94 #[.slice A n c] w fun e w'=>e = .returned (Ml (vU xs))∧Below w.heap.size w w':=by
 subst hn;have hI:=I h.ZC;go_enter Tryz.func94,Tryz.ntmps94;go_wp2_with fail
 go_loopw [5,6,7] (fun u v i wr=>∃(k:Nat),k≤xs.length∧i = .int .i64 k∧wr.ownsRow w.heap.size 3 1 u k (iv ((xs.take k).map nI.aw))∧wr.ownsRow w.heap.size 3 1 v k (iv ((xs.take k).map nI.mem))∧DK u v∧Below w.heap.size w wr) (fun _ _ i _=>xs.length - (intOf i).toNat)
 case atStart =>exact Jc
 case round =>
  obtain ⟨k,hk,rfl,hu,hv,nA,az⟩:=hrel;have Sx:=hu.lt;by_cases ap:k < xs.length
  ·obtain ⟨b,o,ck,Fk,rfl,o9,hbs,hr,br,hc⟩:=(Sl.ext (w':=wr) (A:=A) (c:=c) h az).get ap;have lI:=h.lt b o9;obtain ⟨gu,gy,jw,oh,nT,wG,fA,fB,jY,ax,su,hname,dO,vg,cE,BJ,mX,eG⟩:=dL hr;subst ax;obtain ⟨q0,q1,q2,q3,q4,q5,q6⟩:=XE 7 hc;clear hc
   go_wp2_with (first
    | (at_builtin
       refine uf PI Z _ _ Z _ _ _ _ _ hu Z [.int .i64 xs[k].aw] ly Z e' O O (az.size) ?_;intro u2 w2 dC et cI PR;have cA:some b≠u5.ownBlock:=(by intro e;have:=hu.lt _ e.symm;omega);replace q3:=et.cell q3 cA;have ao:Below w.heap.size w w2:=lS hu et az az.size;have eN:=hv.kept et nA.symm
       have sl:=nA.grow (N:=_) hv O PR)
    | (at_builtin
       refine uf PI Z _ _ Z _ _ _ _ _ eN Z [.int .i64 xs[k].mem] ly Z e' O O (ao.size) ?_;intro v2 w3 iA mU ez vI;have cY:=dC.kept mU sl;have KY:DK v2 u2:=sl.symm.grow (N:=_) dC O vI
       have bd:=lS eN mU ao ao.size))
   exact KX
  ·have bz:k = xs.length:=O;subst bz;rw [List.take_length] at hu hv;obtain ⟨Au,cu,Gu,rfl,hsu⟩:=Sl.oJ (xs:=xs.map nI.aw) (by rw [List.length_map];exact hu) (Fv wr _ (by intro y hy;obtain ⟨p,hp,rfl⟩:=List.mem_map.1 hy;exact (hI.out p hp).1));obtain ⟨Av,cv,Gv,rfl,pl⟩:=Sl.oJ (xs:=xs.map nI.mem) (by rw [List.length_map];exact hv) (Fv wr _ (by intro y hy;obtain ⟨p,hp,rfl⟩:=List.mem_map.1 hy;exact (hI.out p hp).2.1));clear hu hv nA;rcases dc:GZ (xs.map nI.aw) 0 with _ | a <;> rcases dx:GZ (xs.map nI.mem) 0 with _ | b
   all_goals
    have bo:vU xs = _:=(by unfold vU;rw [dc,dx]);have HF:=I bo;have R1:=I dc;have R2:=I dx;clear dc dx bo;go_wp2_with fail
    refine (Zy (xs.map nI.aw) Au _ cu Gu _ hsu S' Pz).mono ?_;rw [R1.out];rintro e w2 ⟨rfl,ao⟩;go_wp2_with fail
    refine (Zy (xs.map nI.mem) Av _ cv Gv _ (pl.ext ao) S' Pz).mono ?_;rw [R2.out];rintro e w3 ⟨rfl,bd⟩;go_wp2;go_returns
    exact ⟨by rw [HF.out];rfl,ah (ah az ao) bd⟩
def kd (nm:ByteArray) (p:ag):Bool:=!(nm.toList == [])&&(p.on.toList == nm.toList)
def F7 (nm:ByteArray) (xs:List ag):List nI:=(xs.filter (kd nm)).map ag.aS
theorem PS {nm:ByteArray} {xs:List ag} {k:Nat} (h:k < xs.length) (hp:kd nm xs[k] = true):F7 nm (xs.take (k+1)) = F7 nm (xs.take k)++[xs[k].aS]:=by
 unfold F7;rw [List.take_succ_eq_append_getElem h,List.filter_append,List.map_append];simp [hp]
theorem YC {nm:ByteArray} {xs:List ag} {k:Nat} (h:k < xs.length) (hp:kd nm xs[k] = false):F7 nm (xs.take (k+1)) = F7 nm (xs.take k):=by
 unfold F7;rw [List.take_succ_eq_append_getElem h,List.filter_append,List.map_append];simp [hp]
theorem NK (nm:ByteArray) (xs:List ag):(F7 nm xs).length≤xs.length:=by unfold F7;rw [List.length_map];exact List.length_filter_le _ _
theorem ZE (nm:ByteArray) (xs:List ag) (k:Nat):(F7 nm (xs.take k)).length≤k:=Nat.le_trans (NK _ _) RO
theorem ZF (nm:ByteArray) (xs:List ag) (h:nm.toList = []):F7 nm xs = []:=by
 unfold F7 kd;simp [h]
def KF (nm:ByteArray) (xs:List ag):Value :=
 match vU (F7 nm xs) with
 | some (a,b)=>.tuple #[.int .i64 a,.int .i64 b,.int .i64 (F7 nm xs).length,.bool true]
 | none=>.tuple #[.int .i64 0,.int .i64 0,.int .i64 0,.bool false]
theorem asM:(Tryz.prog.info? 46).map (fun i=>(i.zero,i.size,i.bytes)) = some (some (.agg #[.string ⟨#[]⟩,.slice none 0 0,.int .i64 0,.int .i64 0,.int .i64 0,.slice none 0 0,.slice none 0 0]),7,112):=by kernel_rfl
theorem ZG:DL Tryz.prog 139 46 (.agg #[.string ⟨#[]⟩,.slice none 0 0,.int .i64 0,.int .i64 0,.int .i64 0,.slice none 0 0,.slice none 0 0]) 7 112:=⟨Tryz.underlying139,asM,rfl,O⟩
theorem iQ (x:aU) (cs:List Value) (F:List Nat) (nm:ByteArray) (w:World) (h:rd w x cs F) (hl:(x.J.length:Int)≤1048576) :
 Calls Tryz.prog 70 #[.agg cs.toArray,.string nm] w fun e w'=>e = .returned (KF nm x.J)∧Below w.heap.size w w':=by
 obtain ⟨bG,bD,fQ,dn,bW,jg,ax,qp,bQ,dM,hnext,aV,aP,aW⟩:=aO h;subst ax;clear qp;go_enter Tryz.func70,Tryz.ntmps70;go_wp2_with fail
 go_loopw [8,18] (fun v i wr=>∃(k:Nat) (ds:List Value) (G:List Nat),k≤x.J.length∧i = .int .i64 k∧wr.ownsRow (w.heap.size+1) 46 7 v (F7 nm (x.J.take k)).length ds∧jo w (F7 nm (x.J.take k)) ds G∧wr.cell? ⟨w.heap.size,1,none⟩ = some (.slice dn x.J.length bW)∧Below w.heap.size w wr) (fun _ i _=>x.J.length - (intOf i).toNat)
 case atStart =>exact IM
 case round =>
  obtain ⟨k,ds,G,hk,rfl,aR,fo,hqc,az⟩:=hrel;have Mm:w.heap.size < wr.heap.size:=World.block_lt_of_cell? wr _ hqc;by_cases ap:k < x.J.length
  ·have AR:=ZE nm x.J k;have Sy:some w.heap.size≠u8.ownBlock:=(by intro e;have:=aR.lt _ e.symm;omega);obtain ⟨b,o,ck,Fk,rfl,o9,hbs,hr,br,hc⟩:=Sl.get (α:=ag) (A:=dn) (c:=bW) dM ap;obtain ⟨c1,c2,F1,F2,rfl,rfl,QS,_,_,_,_,rfl,rfl,⟨rfl,rfl,ed⟩,⟨rfl,rfl,hseq⟩⟩:=hr;have l6:=QS;obtain ⟨gV,gW,lF,iR,iT,mV,dD,dF,iH,ax,su,nY,iE,rF,rG,oZ,je,dN⟩:=dL QS;subst ax;clear su QS iE je dN;obtain ⟨q0,q1,q2,q3,q4,q5,q6,q7,q8⟩:=om 9 hc;clear hc;replace q0:=r' az q0 hbs;replace q1:=r' az q1 hbs;replace q2:=r' az q2 hbs;replace q3:=r' az q3 hbs;replace q4:=r' az q4 hbs;replace q5:=r' az q5 hbs;replace q6:=r' az q6 hbs;replace q7:=r' az q7 hbs;replace q8:=r' az q8 hbs;cases cW:(nm.toList == []) <;> cases cK:(x.J[k].on.toList == nm.toList)
   all_goals
    have hp:kd nm x.J[k] = _:=XI;simp only [Bool.not_true,Bool.not_false,Bool.true_and,Bool.false_and] at hp;have HP:=I hp;clear hp
    go_wp2_with (
     at_builtin
     go_must (refine lC ZG Z _ _ Z _ _ _ _ _ (aR.alloc _) Z [.string x.J[k].aS.name,.slice gV x.J[k].aS.labels.length gW,.int .i64 x.J[k].aS.aw,.int .i64 x.J[k].aS.mem,.int .i64 x.J[k].aS.av,.slice iR x.J[k].aS.ai.length iT,.slice dD x.J[k].aS.ae.length dF] ly Z e' O O RP ?_)
     intro v2 w2 dT et cI;go_must (have ao:Below w.heap.size w w2:=lS (B:=w.heap.size) ((vP aR (Nat.le_succ _)).alloc _) et (ak az _) L6)
     go_must (have PT:=et.cell ((World.cell?_of_block (heap_alloc_old wr _ O)).trans hqc) Sy))
    first
     | exact ⟨⟨k+1,_,_,O,N',(by rw [YC ap HP.out];exact aR),PA,hqc,az⟩,by simp [intOf];omega⟩
     | exact ⟨⟨k+1,_,_,O,N',(by rw [PS ap HP.out,List.length_append];exact dT),(by rw [PS ap HP.out];exact fo.append (.single l6)),PT,ao⟩,by simp [intOf];omega⟩
     | exact ⟨⟨k+1,_,_,O,N',(by rw [YC ap HP.out];exact aR.alloc _),PA,(World.cell?_of_block (heap_alloc_old wr _ O)).trans hqc,ak az _⟩,by simp [intOf];omega⟩
  ·have bz:k = x.J.length:=O;subst bz;rw [List.take_length] at aR fo;obtain ⟨Al,cl,Gl,rfl,ia⟩:=Sl.oJ aR (fo.frame (fun b hb=>az.block b (fo.lt b hb)) az.size);have AR:=NK nm x.J;clear aR fo;rcases dc:vU (F7 nm x.J) with _ | ⟨a,b⟩
   all_goals
    have bo:KF nm x.J = _:=RQ;have HF:=I bo;have R1:=I dc;clear dc bo;go_wp2_with fail
    refine (am9 (F7 nm x.J) Al _ cl Gl _ ia rfl O).mono ?_;rw [R1.out];simp only [Ml];rintro e w2 ⟨rfl,ao⟩;go_wp2;go_returns
    exact ⟨by rw [HF.out],ah az ao⟩
theorem jm (x:aU) (cs:List Value) (F:List Nat) (nm:ByteArray) (w:World) (h:rd w x cs F) (hl:(x.J.length:Int)≤1048576) :
 Calls Tryz.prog 57 #[.agg cs.toArray,.string nm] w fun e w'=>e = .returned (KF nm x.J)∧Below w.heap.size w w':=by
 obtain ⟨bG,bD,fQ,dn,bW,jg,ax,qp,bQ,dM,hnext,aV,aP,aW⟩:=aO h;subst ax;clear qp;go_enter Tryz.func57,Tryz.ntmps57;go_wp2_with fail
 go_loopw [8,9] (fun v i wr=>∃(k:Nat) (ds:List Value) (G:List Nat),k≤x.J.length∧i = .int .i64 k∧wr.ownsRow (w.heap.size+1) 46 7 v (F7 nm (x.J.take k)).length ds∧jo w (F7 nm (x.J.take k)) ds G∧wr.cell? ⟨w.heap.size,1,none⟩ = some (.slice dn x.J.length bW)∧Below w.heap.size w wr) (fun _ i _=>x.J.length - (intOf i).toNat)
 case atStart =>exact IM
 case round =>
  obtain ⟨k,ds,G,hk,rfl,aR,fo,hqc,az⟩:=hrel;have Mm:w.heap.size < wr.heap.size:=World.block_lt_of_cell? wr _ hqc;cases cW:(nm.toList == []) with
  | true =>
    have he:nm.toList = []:=(by simpa using cW);rw [ZF nm _ he,← ZF nm x.J he] at aR fo;by_cases ap:k < x.J.length
    all_goals
     obtain ⟨Al,cl,Gl,rfl,ia⟩:=Sl.oJ aR (fo.frame (fun b hb=>az.block b (fo.lt b hb)) az.size);have AR:=NK nm x.J;clear aR fo;rcases dc:vU (F7 nm x.J) with _ | ⟨a,b⟩
     all_goals
      have bo:KF nm x.J = _:=RQ;have HF:=I bo;have R1:=I dc;clear dc bo;go_wp2_with fail
      refine (ZD (F7 nm x.J) Al _ cl Gl _ ia rfl O).mono ?_;rw [R1.out];simp only [Ml];rintro e w2 ⟨rfl,ao⟩;go_wp2;go_returns
      exact ⟨by rw [HF.out],ah az ao⟩
  | false =>
    by_cases ap:k < x.J.length
    ·have AR:=ZE nm x.J k;have Sy:some w.heap.size≠u8.ownBlock:=(by intro e;have:=aR.lt _ e.symm;omega);obtain ⟨b,o,ck,Fk,rfl,o9,hbs,hr,br,hc⟩:=Sl.get (α:=ag) (A:=dn) (c:=bW) dM ap;obtain ⟨c1,c2,F1,F2,rfl,rfl,QS,_,_,_,_,rfl,rfl,⟨rfl,rfl,ed⟩,⟨rfl,rfl,hseq⟩⟩:=hr;have l6:=QS;obtain ⟨gV,gW,lF,iR,iT,mV,dD,dF,iH,ax,su,nY,iE,rF,rG,oZ,je,dN⟩:=dL QS;subst ax;clear su QS iE je dN;obtain ⟨q0,q1,q2,q3,q4,q5,q6,q7,q8⟩:=om 9 hc;clear hc;replace q0:=r' az q0 hbs;replace q1:=r' az q1 hbs;replace q2:=r' az q2 hbs;replace q3:=r' az q3 hbs;replace q4:=r' az q4 hbs;replace q5:=r' az q5 hbs;replace q6:=r' az q6 hbs;replace q7:=r' az q7 hbs;replace q8:=r' az q8 hbs;cases cK:(x.J[k].on.toList == nm.toList)
     all_goals
      have hp:kd nm x.J[k] = _:=XI;simp only [Bool.not_true,Bool.not_false,Bool.true_and,Bool.false_and] at hp;have HP:=I hp;clear hp
      go_wp2_with (
       at_builtin
       go_must (refine lC ZG Z _ _ Z _ _ _ _ _ aR Z [.string x.J[k].aS.name,.slice gV x.J[k].aS.labels.length gW,.int .i64 x.J[k].aS.aw,.int .i64 x.J[k].aS.mem,.int .i64 x.J[k].aS.av,.slice iR x.J[k].aS.ai.length iT,.slice dD x.J[k].aS.ae.length dF] ly Z e' O O RP ?_)
       intro v2 w2 dT et cI;go_must (have ao:Below w.heap.size w w2:=lS (vP aR (Nat.le_succ _)) et az az.size)
       go_must (have PT:=et.cell hqc Sy))
      first
       | exact ⟨⟨k+1,_,_,O,N',(by rw [YC ap HP.out];exact aR),PA,hqc,az⟩,by simp [intOf];omega⟩
       | exact ⟨⟨k+1,_,_,O,N',(by rw [PS ap HP.out,List.length_append];exact dT),(by rw [PS ap HP.out];exact fo.append (.single l6)),PT,ao⟩,by simp [intOf];omega⟩
       | exact ⟨⟨k+1,_,_,O,N',(by rw [YC ap HP.out];exact aR.alloc _),PA,(World.cell?_of_block (heap_alloc_old wr _ O)).trans hqc,ak az _⟩,by simp [intOf];omega⟩
    ·have bz:k = x.J.length:=O;subst bz;rw [List.take_length] at aR fo;obtain ⟨Al,cl,Gl,rfl,ia⟩:=Sl.oJ aR (fo.frame (fun b hb=>az.block b (fo.lt b hb)) az.size);have AR:=NK nm x.J;clear aR fo;rcases dc:vU (F7 nm x.J) with _ | ⟨a,b⟩
     all_goals
      have bo:KF nm x.J = _:=RQ;have HF:=I bo;have R1:=I dc;clear dc bo;go_wp2_with fail
      refine (ZD (F7 nm x.J) Al _ cl Gl _ ia rfl O).mono ?_;rw [R1.out];simp only [Ml];rintro e w2 ⟨rfl,ao⟩;go_wp2;go_returns
      exact ⟨by rw [HF.out],ah az ao⟩
end Go.Proofs.YtjahcnjmjahbaaaGreat
