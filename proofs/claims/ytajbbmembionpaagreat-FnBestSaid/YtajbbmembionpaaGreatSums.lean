/- AddInt, SumInts, SumsOf, of the program and of the reference. No condition. -/
import Derived.Test.YtajbbmembionpaaGreatAppendAt
import Derived.Test.YtajbbmembionpaaGreatRegion
namespace Go.Proofs.YtajbbmembionpaaGreat
open Go.ChangeShapes Go.WideShapes Go.ChangeAt Go.RowKit
set_option linter.unusedVariables false
set_option linter.unusedSimpArgs false
set_option maxHeartbeats 1000000
set_option maxRecDepth 100000
def GX (a b:Int):Option Int:=if a < 0∨b < 0∨9223372036854775807 - b < a then none else some (a+b)
theorem MH {a b t:Int} (h:GX a b = some t) (ha:bp a) (hb:bp b):bp t:=by
 unfold GX at h;split at h
 ·cases h
 ·cases h
  unfold bp at *;omega
def GZ:List Int→Int→Option Int
 | [],s=>some s
 | x :: xs,s=>match GX s x with | none=>none | some m=>GZ xs m
theorem J9 (a b:Int) (w:World) (ha:bp a) (hb:bp b):Calls Tryz.prog 90 #[.int .i64 a,.int .i64 b] w fun e w'=>e = .returned (.tuple #[.int .i64 ((GX a b).getD 0),.bool (GX a b).isSome])∧Below w.heap.size w w':=by
 obtain ⟨Pu,ha1⟩:=ha;obtain ⟨fc,bo⟩:=hb;by_cases h1:a < 0
 ·exact zp
 by_cases h2:b < 0
 ·exact zp
 by_cases h3:9223372036854775807 - b < a
 ·exact zp
 ·have e:GX a b = some (a+b):=by unfold GX;rw [if_neg J]
  rw [e];go_enter Tryz.func90,Tryz.ntmps90;go_wp2;go_returns
  exact ⟨rfl,aj _⟩
theorem oQ (a b:Int) (w:World) (ha:bp a) (hb:bp b):Calls Tryz.prog 130 #[.int .i64 a,.int .i64 b] w fun e w'=>e = .returned (.tuple #[.int .i64 ((GX a b).getD 0),.bool (GX a b).isSome])∧Below w.heap.size w w':=by
 obtain ⟨Pu,ha1⟩:=ha;obtain ⟨fc,bo⟩:=hb;by_cases h1:a < 0
 ·exact zn
 by_cases h2:b < 0
 ·exact zn
 by_cases h3:9223372036854775807 - b < a
 ·exact zn
 ·have e:GX a b = some (a+b):=by unfold GX;rw [if_neg J]
  rw [e];go_enter Tryz.func130,Tryz.ntmps130;go_wp2;go_returns
  exact ⟨rfl,aj _⟩
theorem Vy (xs:List Int) (A:Option Addr) (n c:Nat) (F:List Nat) (w:World) (h:Sl w xs A c F) (hn:n = xs.length) (hl:(xs.length:Int)≤1048576) :
 Calls Tryz.prog 131 #[.slice A n c] w fun e w'=>e = .returned (.tuple #[.int .i64 ((GZ xs 0).getD 0),.bool (GZ xs 0).isSome])∧Below w.heap.size w w':=by
 subst hn;go_enter Tryz.func131,Tryz.ntmps131;go_wp2_with fail
 go_loopw [4,11] (fun x i wr=>∃(k:Nat) (s:Int),k≤xs.length∧i = .int .i64 k∧x = .int .i64 s∧bp s∧Hid (GZ xs 0 = GZ (xs.drop k) s)∧Below w.heap.size w wr) (fun _ i _=>xs.length - (intOf i).toNat)
 case atStart=>exact ⟨0,0,Nat.zero_le _,rfl,rfl,⟨by decide,by decide⟩,rfl,aj _⟩
 case round =>
  obtain ⟨k,s,hk,rfl,rfl,hs,HS,ax⟩:=hrel;by_cases aq:k < xs.length
  ·obtain ⟨b,o,ck,Fk,rfl,o9,bc,hr,bv,hc⟩:=(Sl.ext (w':=wr) (A:=A) (c:=c) h ax).get aq;obtain ⟨aw,su,hI⟩:=hr;subst aw su;have q0:wr.cell? ⟨b,o+k,none⟩ = some (.int .i64 xs[k]):=(by have:=hc 0 _ rfl;rwa [show o+(k * ba.size Int+0) = o+k from by show o+(k * 1+0) = _;omega] at this);clear hc;have iJ:GZ (xs.drop k) s = GZ (xs[k] :: xs.drop (k+1)) s:=(by rw [List.getElem_cons_drop]);have Ac:=hs;have Ad:=hI;generalize hxk:xs[k] = y at *;cases ha:GX s y with
   | none =>
     have hf:GZ xs 0 = none:=(by rw [HS.out,iJ,GZ,ha]);have HF:=I hf;clear hf iJ;have HA:=I ha;clear ha;go_wp2_with (go_at_call 90;refine (J9 s y _ Ac Ad).mono ?_;rw [HA.out];rintro e w2 ⟨rfl,ap⟩)
     go_returns
     exact ⟨by rw [HF.out];rfl,ah ax ap⟩
   | some t =>
     have hf:GZ xs 0 = GZ (xs.drop (k+1)) t:=(by rw [HS.out,iJ,GZ,ha]);have HF:=I hf;have CC:=MH ha Ac Ad;clear hf iJ;have HA:=I ha;clear ha;go_wp2_with (go_at_call 90;refine (J9 s y _ Ac Ad).mono ?_;rw [HA.out];rintro e w2 ⟨rfl,ap⟩)
     exact ⟨⟨k+1,t,J,N',rfl,CC,HF.out,ah ax ap⟩,by simp [intOf];omega⟩
  ·exact Ge
theorem Vz (xs:List Int) (A:Option Addr) (n c:Nat) (F:List Nat) (w:World) (h:Sl w xs A c F) (hn:n = xs.length) (hl:(xs.length:Int)≤1048576) :
 Calls Tryz.prog 140 #[.slice A n c] w fun e w'=>e = .returned (.tuple #[.int .i64 ((GZ xs 0).getD 0),.bool (GZ xs 0).isSome])∧Below w.heap.size w w':=by
 subst hn;go_enter Tryz.func140,Tryz.ntmps140;go_wp2_with fail
 go_loopw [4,5] (fun x i wr=>∃(k:Nat) (s:Int),k≤xs.length∧i = .int .i64 k∧x = .int .i64 s∧bp s∧Hid (GZ xs 0 = GZ (xs.drop k) s)∧Below w.heap.size w wr) (fun _ i _=>xs.length - (intOf i).toNat)
 case atStart=>exact ⟨0,0,Nat.zero_le _,rfl,rfl,⟨by decide,by decide⟩,rfl,aj _⟩
 case round =>
  obtain ⟨k,s,hk,rfl,rfl,hs,HS,ax⟩:=hrel;by_cases aq:k < xs.length
  ·obtain ⟨b,o,ck,Fk,rfl,o9,bc,hr,bv,hc⟩:=(Sl.ext (w':=wr) (A:=A) (c:=c) h ax).get aq;obtain ⟨aw,su,hI⟩:=hr;subst aw su;have q0:wr.cell? ⟨b,o+k,none⟩ = some (.int .i64 xs[k]):=(by have:=hc 0 _ rfl;rwa [show o+(k * ba.size Int+0) = o+k from by show o+(k * 1+0) = _;omega] at this);clear hc;have iJ:GZ (xs.drop k) s = GZ (xs[k] :: xs.drop (k+1)) s:=(by rw [List.getElem_cons_drop]);have Ac:=hs;have Ad:=hI;generalize hxk:xs[k] = y at *;cases ha:GX s y with
   | none =>
     have hf:GZ xs 0 = none:=(by rw [HS.out,iJ,GZ,ha]);have HF:=I hf;clear hf iJ;have HA:=I ha;clear ha;go_wp2_with (go_at_call 130;refine (oQ s y _ Ac Ad).mono ?_;rw [HA.out];rintro e w2 ⟨rfl,ap⟩)
     go_returns
     exact ⟨by rw [HF.out];rfl,ah ax ap⟩
   | some t =>
     have hf:GZ xs 0 = GZ (xs.drop (k+1)) t:=(by rw [HS.out,iJ,GZ,ha]);have HF:=I hf;have CC:=MH ha Ac Ad;clear hf iJ;have HA:=I ha;clear ha;go_wp2_with (go_at_call 130;refine (oQ s y _ Ac Ad).mono ?_;rw [HA.out];rintro e w2 ⟨rfl,ap⟩)
     exact ⟨⟨k+1,t,J,N',rfl,CC,HF.out,ah ax ap⟩,by simp [intOf];omega⟩
  ·exact Ge
def vU (xs:List nI):Option (Int × Int) :=
 match GZ (xs.map nI.av) 0,GZ (xs.map nI.mem) 0 with
 | some a,some b=>some (a,b)
 | _,_=>none
def I2:Option (Int × Int)→Value
 | some (a,b)=>.tuple #[.int .i64 a,.int .i64 b,.bool true]
 | none=>.tuple #[.int .i64 0,.int .i64 0,.bool false]
def iv (xs:List Int):List Value:=xs.map fun n=>.int .i64 n
theorem T7 {α:Type} (f:α→Int) (xs:List α) (k:Nat) (h:k < xs.length):iv ((xs.take (k+1)).map f) = iv ((xs.take k).map f)++[.int .i64 (f xs[k])]:=by
 unfold iv;rw [List.take_succ_eq_append_getElem h,List.map_append,List.map_append];rfl
theorem Sl.VA {w:World} {xs:List nI} {A:Option Addr} {c:Nat} {F:List Nat} (h:Sl w xs A c F):∀p∈xs,bp p.av∧bp p.mem∧bp p.ar:=by
 intro p hp;obtain ⟨k,hk,rfl⟩:=List.getElem_of_mem hp;obtain ⟨b,o,ck,Fk,_,_,_,hr,_,_⟩:=h.get hk;obtain ⟨gu,gy,jw,oh,nT,wG,fA,fB,jY,rfl,rfl,hname,dO,vg,cF,BJ,mX,eG⟩:=dL hr;exact ⟨vg,cF,BJ⟩
theorem am9 (xs:List nI) (A:Option Addr) (n c:Nat) (F:List Nat) (w:World) (h:Sl w xs A c F) (hn:n = xs.length) (hl:(xs.length:Int)≤1048576) :
 Calls Tryz.prog 85 #[.slice A n c] w fun e w'=>e = .returned (I2 (vU xs))∧Below w.heap.size w w':=by
 subst hn;have hI:=I h.VA;go_enter Tryz.func85,Tryz.ntmps85;go_wp2_with fail
 go_loopw [5,6,17] (fun u v i wr=>∃(k:Nat),k≤xs.length∧i = .int .i64 k∧wr.ownsRow w.heap.size 3 1 u k (iv ((xs.take k).map nI.av))∧wr.ownsRow w.heap.size 3 1 v k (iv ((xs.take k).map nI.mem))∧DK u v∧Below w.heap.size w wr) (fun _ _ i _=>xs.length - (intOf i).toNat)
 case atStart =>exact FT
 case round =>
  obtain ⟨k,hk,rfl,hu,hv,n',ax⟩:=hrel;have Pv:=hu.lt;by_cases aq:k < xs.length
  ·obtain ⟨b,o,ck,Fk,rfl,o9,bc,hr,bv,hc⟩:=(Sl.ext (w':=wr) (A:=A) (c:=c) h ax).get aq;have Ae:=h.lt b o9;obtain ⟨gu,gy,jw,oh,nT,wG,fA,fB,jY,aw,su,hname,dO,vg,cF,BJ,mX,eG⟩:=dL hr;subst aw;obtain ⟨q0,q1,q2,q3,q4,q5,q6⟩:=T' 7 hc;clear hc
   go_wp2_with (first
    | (at_builtin
       refine uf MA O _ _ O _ _ _ _ _ (hu.alloc _) O [.int .i64 xs[k].av] jI O eC J J Mj ?_;intro u2 w2 b4 ev cj MI;have bN:some wr.heap.size≠u5.ownBlock:=(by intro e;have:=hu.lt _ e.symm;omega);have p3:w2.cell? ⟨wr.heap.size,3,none⟩ = some (.int .i64 xs[k].mem):=ev.cell Mo bN;have ap:Below w.heap.size w w2:=lS (hu.alloc _) ev (ak ax _) Mj;have gF:=(hv.alloc _).kept ev n'.symm
       have rU:=n'.grow (N:=_) hv (by simp;omega) MI)
    | (at_builtin
       refine uf MA O _ _ O _ _ _ _ _ gF O [.int .i64 xs[k].mem] jI O eC J J (ap.size) ?_;intro v2 w3 kX o7 cW vb;have bt:=b4.kept o7 rU;have GP:DK v2 u2:=rU.symm.grow (N:=_) b4 J vb
       have aR:=lS gF o7 ap ap.size))
   exact GO
  ·have bB:k = xs.length:=J;subst bB;rw [List.take_length] at hu hv;obtain ⟨Au,cu,Gu,rfl,hsu⟩:=Sl.oJ (xs:=xs.map nI.av) (by rw [List.length_map];exact hu) (Fv wr _ (by intro y hy;obtain ⟨p,hp,rfl⟩:=List.mem_map.1 hy;exact (hI.out p hp).1));obtain ⟨Av,cv,Gv,rfl,Ag⟩:=Sl.oJ (xs:=xs.map nI.mem) (by rw [List.length_map];exact hv) (Fv wr _ (by intro y hy;obtain ⟨p,hp,rfl⟩:=List.mem_map.1 hy;exact (hI.out p hp).2.1));clear hu hv n';rcases dj:GZ (xs.map nI.av) 0 with _ | a <;> rcases fR:GZ (xs.map nI.mem) 0 with _ | b
   all_goals
    have bi:vU xs = _:=(by unfold vU;rw [dj,fR]);have HF:=I bi;have R1:=I dj;have R2:=I fR;clear dj fR bi;go_wp2_with fail
    refine (Vy (xs.map nI.av) Au _ cu Gu _ hsu S' Mp).mono ?_;rw [R1.out];rintro e w2 ⟨rfl,ap⟩;go_wp2_with fail
    refine (Vy (xs.map nI.mem) Av _ cv Gv _ (Ag.ext ap) S' Mp).mono ?_;rw [R2.out];rintro e w3 ⟨rfl,aR⟩;go_wp2;go_returns
    exact ⟨by rw [HF.out];rfl,ah (ah ax ap) aR⟩
theorem VB (xs:List nI) (A:Option Addr) (n c:Nat) (F:List Nat) (w:World) (h:Sl w xs A c F) (hn:n = xs.length) (hl:(xs.length:Int)≤1048576) :
 Calls Tryz.prog 93 #[.slice A n c] w fun e w'=>e = .returned (I2 (vU xs))∧Below w.heap.size w w':=by
 subst hn;have hI:=I h.VA;go_enter Tryz.func93,Tryz.ntmps93;go_wp2_with fail
 go_loopw [5,6,7] (fun u v i wr=>∃(k:Nat),k≤xs.length∧i = .int .i64 k∧wr.ownsRow w.heap.size 3 1 u k (iv ((xs.take k).map nI.av))∧wr.ownsRow w.heap.size 3 1 v k (iv ((xs.take k).map nI.mem))∧DK u v∧Below w.heap.size w wr) (fun _ _ i _=>xs.length - (intOf i).toNat)
 case atStart =>exact FT
 case round =>
  obtain ⟨k,hk,rfl,hu,hv,n',ax⟩:=hrel;have Pv:=hu.lt;by_cases aq:k < xs.length
  ·obtain ⟨b,o,ck,Fk,rfl,o9,bc,hr,bv,hc⟩:=(Sl.ext (w':=wr) (A:=A) (c:=c) h ax).get aq;have Ae:=h.lt b o9;obtain ⟨gu,gy,jw,oh,nT,wG,fA,fB,jY,aw,su,hname,dO,vg,cF,BJ,mX,eG⟩:=dL hr;subst aw;obtain ⟨q0,q1,q2,q3,q4,q5,q6⟩:=T' 7 hc;clear hc
   go_wp2_with (first
    | (at_builtin
       refine uf MA O _ _ O _ _ _ _ _ hu O [.int .i64 xs[k].av] jI O eC J J (ax.size) ?_;intro u2 w2 b4 ev cj MI;have bN:some b≠u5.ownBlock:=(by intro e;have:=hu.lt _ e.symm;omega);replace q3:=ev.cell q3 bN;have ap:Below w.heap.size w w2:=lS hu ev ax ax.size;have gF:=hv.kept ev n'.symm
       have rU:=n'.grow (N:=_) hv J MI)
    | (at_builtin
       refine uf MA O _ _ O _ _ _ _ _ gF O [.int .i64 xs[k].mem] jI O eC J J (ap.size) ?_;intro v2 w3 kX o7 cW vb;have bt:=b4.kept o7 rU;have GP:DK v2 u2:=rU.symm.grow (N:=_) b4 J vb
       have aR:=lS gF o7 ap ap.size))
   exact GO
  ·have bB:k = xs.length:=J;subst bB;rw [List.take_length] at hu hv;obtain ⟨Au,cu,Gu,rfl,hsu⟩:=Sl.oJ (xs:=xs.map nI.av) (by rw [List.length_map];exact hu) (Fv wr _ (by intro y hy;obtain ⟨p,hp,rfl⟩:=List.mem_map.1 hy;exact (hI.out p hp).1));obtain ⟨Av,cv,Gv,rfl,Ag⟩:=Sl.oJ (xs:=xs.map nI.mem) (by rw [List.length_map];exact hv) (Fv wr _ (by intro y hy;obtain ⟨p,hp,rfl⟩:=List.mem_map.1 hy;exact (hI.out p hp).2.1));clear hu hv n';rcases dj:GZ (xs.map nI.av) 0 with _ | a <;> rcases fR:GZ (xs.map nI.mem) 0 with _ | b
   all_goals
    have bi:vU xs = _:=(by unfold vU;rw [dj,fR]);have HF:=I bi;have R1:=I dj;have R2:=I fR;clear dj fR bi;go_wp2_with fail
    refine (Vz (xs.map nI.av) Au _ cu Gu _ hsu S' Mp).mono ?_;rw [R1.out];rintro e w2 ⟨rfl,ap⟩;go_wp2_with fail
    refine (Vz (xs.map nI.mem) Av _ cv Gv _ (Ag.ext ap) S' Mp).mono ?_;rw [R2.out];rintro e w3 ⟨rfl,aR⟩;go_wp2;go_returns
    exact ⟨by rw [HF.out];rfl,ah (ah ax ap) aR⟩
def kv (nm:ByteArray) (p:af):Bool:=!(nm.toList == [])&&(p.on.toList == nm.toList)
def F7 (nm:ByteArray) (xs:List af):List nI:=(xs.filter (kv nm)).map af.aS
theorem MJ {nm:ByteArray} {xs:List af} {k:Nat} (h:k < xs.length) (hp:kv nm xs[k] = true):F7 nm (xs.take (k+1)) = F7 nm (xs.take k)++[xs[k].aS]:=by
 unfold F7;rw [List.take_succ_eq_append_getElem h,List.filter_append,List.map_append];simp [hp]
theorem YC {nm:ByteArray} {xs:List af} {k:Nat} (h:k < xs.length) (hp:kv nm xs[k] = false):F7 nm (xs.take (k+1)) = F7 nm (xs.take k):=by
 unfold F7;rw [List.take_succ_eq_append_getElem h,List.filter_append,List.map_append];simp [hp]
theorem NK (nm:ByteArray) (xs:List af):(F7 nm xs).length≤xs.length:=by unfold F7;rw [List.length_map];exact List.length_filter_le _ _
theorem VC (nm:ByteArray) (xs:List af) (k:Nat):(F7 nm (xs.take k)).length≤k:=Nat.le_trans (NK _ _) OR
theorem VE (nm:ByteArray) (xs:List af) (h:nm.toList = []):F7 nm xs = []:=by
 unfold F7 kv;simp [h]
def KF (nm:ByteArray) (xs:List af):Value :=
 match vU (F7 nm xs) with
 | some (a,b)=>.tuple #[.int .i64 a,.int .i64 b,.int .i64 (F7 nm xs).length,.bool true]
 | none=>.tuple #[.int .i64 0,.int .i64 0,.int .i64 0,.bool false]
theorem asM:(Tryz.prog.info? 35).map (fun i=>(i.zero,i.size,i.bytes)) = some (some (.agg #[.string ⟨#[]⟩,.slice none 0 0,.int .i64 0,.int .i64 0,.int .i64 0,.slice none 0 0,.slice none 0 0]),7,112):=by kernel_rfl
theorem VF:DL Tryz.prog 121 35 (.agg #[.string ⟨#[]⟩,.slice none 0 0,.int .i64 0,.int .i64 0,.int .i64 0,.slice none 0 0,.slice none 0 0]) 7 112:=⟨Tryz.underlying121,asM,rfl,J⟩
theorem iQ (x:aU) (cs:List Value) (F:List Nat) (nm:ByteArray) (w:World) (h:rd w x cs F) (hl:(x.au.length:Int)≤1048576) :
 Calls Tryz.prog 43 #[.agg cs.toArray,.string nm] w fun e w'=>e = .returned (KF nm x.au)∧Below w.heap.size w w':=by
 obtain ⟨bG,bD,fQ,dn,bW,jg,aw,qp,bQ,dM,hnext,aV,aP,aW⟩:=aO h;subst aw;clear qp;go_enter Tryz.func43,Tryz.ntmps43;go_wp2_with fail
 go_loopw [8,18] (fun v i wr=>∃(k:Nat) (ds:List Value) (G:List Nat),k≤x.au.length∧i = .int .i64 k∧wr.ownsRow (w.heap.size+1) 35 7 v (F7 nm (x.au.take k)).length ds∧jo w (F7 nm (x.au.take k)) ds G∧wr.cell? ⟨w.heap.size,1,none⟩ = some (.slice dn x.au.length bW)∧Below w.heap.size w wr) (fun _ i _=>x.au.length - (intOf i).toNat)
 case atStart =>exact FH
 case round =>
  obtain ⟨k,ds,G,hk,rfl,bd,cA,hqc,ax⟩:=hrel;have I3:w.heap.size < wr.heap.size:=World.block_lt_of_cell? wr _ hqc;by_cases aq:k < x.au.length
  ·have y9:=VC nm x.au k;have Pw:some w.heap.size≠u8.ownBlock:=(by intro e;have:=bd.lt _ e.symm;omega);obtain ⟨b,o,ck,Fk,rfl,o9,bc,hr,bv,hc⟩:=Sl.get (α:=af) (A:=dn) (c:=bW) dM aq;obtain ⟨c1,c2,F1,F2,rfl,rfl,QS,_,_,_,_,rfl,rfl,⟨rfl,rfl,ie⟩,⟨rfl,rfl,hseq⟩⟩:=hr;have tG:=QS;obtain ⟨gV,gW,lF,iR,iT,mV,dD,dF,iH,aw,su,nY,iE,rF,rG,oZ,je,dN⟩:=dL QS;subst aw;clear su QS iE je dN;obtain ⟨q0,q1,q2,q3,q4,q5,q6,q7,q8⟩:=x2 9 hc;clear hc;replace q0:=r' ax q0 bc;replace q1:=r' ax q1 bc;replace q2:=r' ax q2 bc;replace q3:=r' ax q3 bc;replace q4:=r' ax q4 bc;replace q5:=r' ax q5 bc;replace q6:=r' ax q6 bc;replace q7:=r' ax q7 bc;replace q8:=r' ax q8 bc;cases cX:(nm.toList == []) <;> cases cM:(x.au[k].on.toList == nm.toList)
   all_goals
    have hp:kv nm x.au[k] = _:=Ul;simp only [Bool.not_true,Bool.not_false,Bool.true_and,Bool.false_and] at hp;have HP:=I hp;clear hp
    go_wp2_with (
     at_builtin
     go_must (refine lC VF O _ _ O _ _ _ _ _ (bd.alloc _) O [.string x.au[k].aS.name,.slice gV x.au[k].aS.labels.length gW,.int .i64 x.au[k].aS.av,.int .i64 x.au[k].aS.mem,.int .i64 x.au[k].aS.ar,.slice iR x.au[k].aS.ag.length iT,.slice dD x.au[k].aS.ae.length dF] jI O eC J J Uj ?_)
     intro v2 w2 ej ev cj;go_must (have ap:Below w.heap.size w w2:=lS (B:=w.heap.size) ((vP bd (Nat.le_succ _)).alloc _) ev (ak ax _) Mj)
     go_must (have MM:=ev.cell ((World.cell?_of_block (heap_alloc_old wr _ J)).trans hqc) Pw))
    first
     | exact ⟨⟨k+1,_,_,J,N',(by rw [YC aq HP.out];exact bd),Mq,hqc,ax⟩,by simp [intOf];omega⟩
     | exact ⟨⟨k+1,_,_,J,N',(by rw [MJ aq HP.out,List.length_append];exact ej),(by rw [MJ aq HP.out];exact cA.append (.single tG)),MM,ap⟩,by simp [intOf];omega⟩
     | exact ⟨⟨k+1,_,_,J,N',(by rw [YC aq HP.out];exact bd.alloc _),Mq,(World.cell?_of_block (heap_alloc_old wr _ J)).trans hqc,ak ax _⟩,by simp [intOf];omega⟩
  ·have bB:k = x.au.length:=J;subst bB;rw [List.take_length] at bd cA;obtain ⟨Al,cl,Gl,rfl,ju⟩:=Sl.oJ bd (cA.frame (fun b hb=>ax.block b (cA.lt b hb)) ax.size);have y9:=NK nm x.au;clear bd cA;rcases dj:vU (F7 nm x.au) with _ | ⟨a,b⟩
   all_goals
    have bi:KF nm x.au = _:=OS;have HF:=I bi;have R1:=I dj;clear dj bi;go_wp2_with fail
    refine (am9 (F7 nm x.au) Al _ cl Gl _ ju rfl J).mono ?_;rw [R1.out];simp only [I2];rintro e w2 ⟨rfl,ap⟩;go_wp2;go_returns
    exact ⟨by rw [HF.out],ah ax ap⟩
theorem jm (x:aU) (cs:List Value) (F:List Nat) (nm:ByteArray) (w:World) (h:rd w x cs F) (hl:(x.au.length:Int)≤1048576) :
 Calls Tryz.prog 52 #[.agg cs.toArray,.string nm] w fun e w'=>e = .returned (KF nm x.au)∧Below w.heap.size w w':=by
 obtain ⟨bG,bD,fQ,dn,bW,jg,aw,qp,bQ,dM,hnext,aV,aP,aW⟩:=aO h;subst aw;clear qp;go_enter Tryz.func52,Tryz.ntmps52;go_wp2_with fail
 go_loopw [8,9] (fun v i wr=>∃(k:Nat) (ds:List Value) (G:List Nat),k≤x.au.length∧i = .int .i64 k∧wr.ownsRow (w.heap.size+1) 35 7 v (F7 nm (x.au.take k)).length ds∧jo w (F7 nm (x.au.take k)) ds G∧wr.cell? ⟨w.heap.size,1,none⟩ = some (.slice dn x.au.length bW)∧Below w.heap.size w wr) (fun _ i _=>x.au.length - (intOf i).toNat)
 case atStart =>exact FH
 case round =>
  obtain ⟨k,ds,G,hk,rfl,bd,cA,hqc,ax⟩:=hrel;have I3:w.heap.size < wr.heap.size:=World.block_lt_of_cell? wr _ hqc;cases cX:(nm.toList == []) with
  | true =>
    have he:nm.toList = []:=(by simpa using cX);rw [VE nm _ he,← VE nm x.au he] at bd cA;by_cases aq:k < x.au.length
    all_goals
     obtain ⟨Al,cl,Gl,rfl,ju⟩:=Sl.oJ bd (cA.frame (fun b hb=>ax.block b (cA.lt b hb)) ax.size);have y9:=NK nm x.au;clear bd cA;rcases dj:vU (F7 nm x.au) with _ | ⟨a,b⟩
     all_goals
      have bi:KF nm x.au = _:=OS;have HF:=I bi;have R1:=I dj;clear dj bi;go_wp2_with fail
      refine (VB (F7 nm x.au) Al _ cl Gl _ ju rfl J).mono ?_;rw [R1.out];simp only [I2];rintro e w2 ⟨rfl,ap⟩;go_wp2;go_returns
      exact ⟨by rw [HF.out],ah ax ap⟩
  | false =>
    by_cases aq:k < x.au.length
    ·have y9:=VC nm x.au k;have Pw:some w.heap.size≠u8.ownBlock:=(by intro e;have:=bd.lt _ e.symm;omega);obtain ⟨b,o,ck,Fk,rfl,o9,bc,hr,bv,hc⟩:=Sl.get (α:=af) (A:=dn) (c:=bW) dM aq;obtain ⟨c1,c2,F1,F2,rfl,rfl,QS,_,_,_,_,rfl,rfl,⟨rfl,rfl,ie⟩,⟨rfl,rfl,hseq⟩⟩:=hr;have tG:=QS;obtain ⟨gV,gW,lF,iR,iT,mV,dD,dF,iH,aw,su,nY,iE,rF,rG,oZ,je,dN⟩:=dL QS;subst aw;clear su QS iE je dN;obtain ⟨q0,q1,q2,q3,q4,q5,q6,q7,q8⟩:=x2 9 hc;clear hc;replace q0:=r' ax q0 bc;replace q1:=r' ax q1 bc;replace q2:=r' ax q2 bc;replace q3:=r' ax q3 bc;replace q4:=r' ax q4 bc;replace q5:=r' ax q5 bc;replace q6:=r' ax q6 bc;replace q7:=r' ax q7 bc;replace q8:=r' ax q8 bc;cases cM:(x.au[k].on.toList == nm.toList)
     all_goals
      have hp:kv nm x.au[k] = _:=Ul;simp only [Bool.not_true,Bool.not_false,Bool.true_and,Bool.false_and] at hp;have HP:=I hp;clear hp
      go_wp2_with (
       at_builtin
       go_must (refine lC VF O _ _ O _ _ _ _ _ bd O [.string x.au[k].aS.name,.slice gV x.au[k].aS.labels.length gW,.int .i64 x.au[k].aS.av,.int .i64 x.au[k].aS.mem,.int .i64 x.au[k].aS.ar,.slice iR x.au[k].aS.ag.length iT,.slice dD x.au[k].aS.ae.length dF] jI O eC J J Uj ?_)
       intro v2 w2 ej ev cj;go_must (have ap:Below w.heap.size w w2:=lS (vP bd (Nat.le_succ _)) ev ax ax.size)
       go_must (have MM:=ev.cell hqc Pw))
      first
       | exact ⟨⟨k+1,_,_,J,N',(by rw [YC aq HP.out];exact bd),Mq,hqc,ax⟩,by simp [intOf];omega⟩
       | exact ⟨⟨k+1,_,_,J,N',(by rw [MJ aq HP.out,List.length_append];exact ej),(by rw [MJ aq HP.out];exact cA.append (.single tG)),MM,ap⟩,by simp [intOf];omega⟩
       | exact ⟨⟨k+1,_,_,J,N',(by rw [YC aq HP.out];exact bd.alloc _),Mq,(World.cell?_of_block (heap_alloc_old wr _ J)).trans hqc,ak ax _⟩,by simp [intOf];omega⟩
    ·have bB:k = x.au.length:=J;subst bB;rw [List.take_length] at bd cA;obtain ⟨Al,cl,Gl,rfl,ju⟩:=Sl.oJ bd (cA.frame (fun b hb=>ax.block b (cA.lt b hb)) ax.size);have y9:=NK nm x.au;clear bd cA;rcases dj:vU (F7 nm x.au) with _ | ⟨a,b⟩
     all_goals
      have bi:KF nm x.au = _:=OS;have HF:=I bi;have R1:=I dj;clear dj bi;go_wp2_with fail
      refine (VB (F7 nm x.au) Al _ cl Gl _ ju rfl J).mono ?_;rw [R1.out];simp only [I2];rintro e w2 ⟨rfl,ap⟩;go_wp2;go_returns
      exact ⟨by rw [HF.out],ah ax ap⟩
end Go.Proofs.YtajbbmembionpaaGreat
