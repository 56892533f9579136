/- slices.Index and slices.Contains over strings; l15Has. No condition. -/
import Derived.Test.YtajbbmembionpaaGreatAt
namespace Go.Proofs.YtajbbmembionpaaGreat
open Go.ChangeShapes Go.WideShapes Go.ChangeAt Go.RowKit
set_option linter.unusedVariables false
set_option linter.unusedSimpArgs false
set_option maxHeartbeats 1000000
set_option maxRecDepth 100000
def MF (s:ByteArray) (xs:List ByteArray):Bool:=xs.any fun v=>v.toList == s.toList
theorem ar4 {s:ByteArray} {xs:List ByteArray} {k:Nat} (hk:k < xs.length) (hp:(xs[k].toList == s.toList) = true):MF s xs = true:=by
 unfold MF;rw [List.any_eq_true];exact ⟨xs[k],List.getElem_mem ..,hp⟩
theorem atn {s:ByteArray} {xs:List ByteArray} (Z:∀v∈xs,(v.toList == s.toList) = false):MF s xs = false:=by
 unfold MF;rw [List.any_eq_false];intro v hv;simp [Z v hv]
theorem aaG (xs:List ByteArray) (s:ByteArray) (A:Option Addr) (n c:Nat) (F:List Nat) (w:World) (h:Sl w xs A c F) (Z:n = xs.length) (hl:(xs.length:Int)≤1048576) :
 Calls Tryz.prog 163 #[.slice A n c,.string s] w fun e w'=>e = .returned (.bool (MF s xs))∧Below w.heap.size w w':=by
 subst Z;go_enter Tryz.func163,Tryz.ntmps163;go_wp2_with fail
 go_loopw [5] (fun i wr=>∃k:Nat,k≤xs.length∧i = .int .i64 k∧Hid (∀v∈xs.take k,(v.toList == s.toList) = false)∧Below w.heap.size w wr) (fun i _=>xs.length - (intOf i).toNat)
 case atStart=>exact ⟨0,Nat.zero_le _,rfl,by show ∀_,_;simp,bJ⟩
 case round =>
  obtain ⟨k,hk,rfl,HN,aR⟩:=hrel;by_cases ax:k < xs.length
  ·obtain ⟨b,o,ck,Fk,rfl,o9,hbs,hr,bB,hc⟩:=(Sl.ext (w':=wr) (A:=A) (c:=c) h aR).get ax;obtain ⟨aE,su,gT⟩:=hr;subst aE su;have q0:wr.cell? ⟨b,o+k,none⟩ = some (.string xs[k]):=(by have:=hc 0 _ rfl;rwa [show o+(k * bc.size ByteArray+0) = o+k from by show o+(k * 1+0) = _;omega] at this);clear hc;cases hp:(xs[k].toList == s.toList) with
   | true =>have yh:(s.toList == xs[k].toList) = true:=(by rw [BEq.comm];exact hp);have HF:=I (ar4 ax hp);exact ej
   | false =>have yh:(s.toList == xs[k].toList) = false:=(by rw [BEq.comm];exact hp);have Gn:=I (yQ (p:=fun v:ByteArray=>v.toList == s.toList) ax HN.out hp);exact xU
  ·have bF:k = xs.length:=J;subst bF;have Z:=HN.out;rw [List.take_length] at Z;have HF:=I (atn Z);clear Z;exact ej
def JO (key:ByteArray) (l:ap):Bool:=l.key.toList == key.toList
def Df (key:ByteArray) (xs:List ap):ByteArray × Bool:=match xs.find? (JO key) with | some l=>(l.value,true) | none=>(⟨#[]⟩,false)
theorem adM {key:ByteArray} {xs:List ap} {k:Nat} (hk:k < xs.length) (Z:∀l∈xs.take k,JO key l = false) (hp:JO key xs[k] = true):Df key xs = (xs[k].value,true):=by
 have e:xs.find? (JO key) = some xs[k]:=by rw [List.find?_eq_some_iff_append];exact ⟨hp,xs.take k,xs.drop (k+1),by rw [List.getElem_cons_drop,List.take_append_drop],fun a ha=>by simp [Z a ha]⟩
 unfold Df;rw [e]
theorem agB {key:ByteArray} {xs:List ap} (Z:∀l∈xs,JO key l = false):Df key xs = (⟨#[]⟩,false):=by
 have e:xs.find? (JO key) = none:=by rw [List.find?_eq_none];intro l hl;simp [Z l hl]
 unfold Df;rw [e]
theorem akK (xs:List ap) (key:ByteArray) (A:Option Addr) (n c:Nat) (F:List Nat) (w:World) (h:Sl w xs A c F) (Z:n = xs.length) (hl:(xs.length:Int)≤1048576) :
 Calls Tryz.prog 162 #[.slice A n c,.string key] w fun e w'=>e = .returned (.tuple #[.string (Df key xs).1,.bool (Df key xs).2])∧Below w.heap.size w w':=by
 subst Z;go_enter Tryz.func162,Tryz.ntmps162;go_wp2_with fail
 go_loopw [6] (fun i wr=>∃k:Nat,k≤xs.length∧i = .int .i64 k∧Hid (∀l∈xs.take k,JO key l = false)∧Below w.heap.size w wr) (fun i _=>xs.length - (intOf i).toNat)
 case atStart=>exact ⟨0,Nat.zero_le _,rfl,by show ∀_,_;simp,bJ⟩
 case round =>
  obtain ⟨k,hk,rfl,HN,aR⟩:=hrel;by_cases ax:k < xs.length
  ·obtain ⟨b,o,ck,Fk,rfl,o9,hbs,hr,bB,hc⟩:=(Sl.ext (w':=wr) (A:=A) (c:=c) h aR).get ax;obtain ⟨aE,su,cf,kP⟩:=vO hr;subst aE;obtain ⟨q0,q1⟩:=I2 2 hc;clear hc;cases hp:JO key xs[k] with
   | true =>
     have HF:=I (adM ax HN.out hp);unfold JO at hp;go_wp2;go_returns
     exact ⟨by rw [HF.out];rfl,bJ⟩
   | false =>have Gn:=I (yQ ax HN.out hp);unfold JO at hp;exact xU
  ·have bF:k = xs.length:=J;subst bF;have Z:=HN.out;rw [List.take_length] at Z;have HF:=I (agB Z);clear Z;go_wp2;go_returns
   exact ⟨by rw [HF.out];rfl,bJ⟩
def vU (xs:List nI):Option (Int × Int) :=
 match GZ (xs.map nI.az) 0,GZ (xs.map nI.mem) 0 with
 | some a,some b=>some (a,b)
 | _,_=>none
def E4:Option (Int × Int)→Value
 | some (a,b)=>.tuple #[.int .i64 a,.int .i64 b,.bool true]
 | none=>.tuple #[.int .i64 0,.int .i64 0,.bool false]
def iv (xs:List Int):List Value:=xs.map fun n=>.int .i64 n
theorem P7 {α:Type} (f:α→Int) (xs:List α) (k:Nat) (h:k < xs.length):iv ((xs.take (k+1)).map f) = iv ((xs.take k).map f)++[.int .i64 (f xs[k])]:=by
 unfold iv;rw [List.take_succ_eq_append_getElem h,List.map_append,List.map_append];rfl
theorem Sl.Q1 {w:World} {xs:List nI} {A:Option Addr} {c:Nat} {F:List Nat} (h:Sl w xs A c F):∀p∈xs,br p.az∧br p.mem∧br p.aw:=by
 intro p hp;obtain ⟨k,hk,rfl⟩:=List.getElem_of_mem hp;obtain ⟨b,o,ck,Fk,_,_,_,hr,_,_⟩:=h.get hk;obtain ⟨gu,gy,jw,oh,nT,wG,fA,fB,jY,rfl,rfl,hname,dO,vg,cB,BJ,mX,eG⟩:=dL hr;exact ⟨vg,cB,BJ⟩
theorem Xd (xs:List nI) (A:Option Addr) (n c:Nat) (F:List Nat) (w:World) (h:Sl w xs A c F) (Z:n = xs.length) (hl:(xs.length:Int)≤1048576) :
 Calls Tryz.prog 85 #[.slice A n c] w fun e w'=>e = .returned (E4 (vU xs))∧Below w.heap.size w w':=by
 subst Z;have hI:=I h.Q1;go_enter Tryz.func85,Tryz.ntmps85;go_wp2_with fail
 go_loopw [5,6,17] (fun u v i wr=>∃(k:Nat),k≤xs.length∧i = .int .i64 k∧wr.ownsRow w.heap.size 3 1 u k (iv ((xs.take k).map nI.az))∧wr.ownsRow w.heap.size 3 1 v k (iv ((xs.take k).map nI.mem))∧DK u v∧Below w.heap.size w wr) (fun _ _ i _=>xs.length - (intOf i).toNat)
 case atStart =>exact Dl
 case round =>
  obtain ⟨k,hk,rfl,hu,hv,mZ,aR⟩:=hrel;have L':=hu.lt;by_cases ax:k < xs.length
  ·obtain ⟨b,o,ck,Fk,rfl,o9,hbs,hr,bB,hc⟩:=(Sl.ext (w':=wr) (A:=A) (c:=c) h aR).get ax;have yk:=h.lt b o9;obtain ⟨gu,gy,jw,oh,nT,wG,fA,fB,jY,aE,su,hname,dO,vg,cB,BJ,mX,eG⟩:=dL hr;subst aE;obtain ⟨q0,q1,q2,q3,q4,q5,q6⟩:=Qd 7 hc;clear hc
   go_wp2_with (first
    | (at_builtin
       refine uf EI O _ _ O _ _ _ _ _ (hu.alloc _) O [.int .i64 xs[k].az] i6 O ex J J I8 ?_;intro u2 w2 bN eA cw JN;have b4:some wr.heap.size≠u5.ownBlock:=(by intro e;have:=hu.lt _ e.symm;omega);have p3:w2.cell? ⟨wr.heap.size,3,none⟩ = some (.int .i64 xs[k].mem):=eA.cell Jc b4;have ar:Below w.heap.size w w2:=lS (hu.alloc _) eA (ak aR _) I8;have gn:=(hv.alloc _).kept eA mZ.symm
       have qt:=mZ.grow (N:=_) hv (by simp;omega) JN)
    | (at_builtin
       refine uf EI O _ _ O _ _ _ _ _ gn O [.int .i64 xs[k].mem] i6 O ex J J (ar.size) ?_;intro v2 w3 jx l6 cU qu;have bu:=bN.kept l6 qt;have DW:DK v2 u2:=qt.symm.grow (N:=_) bN J qu
       have bb:=lS gn l6 ar ar.size))
   exact DU
  ·have bF:k = xs.length:=J;subst bF;rw [List.take_length] at hu hv;obtain ⟨Au,cu,Gu,rfl,hsu⟩:=Sl.oJ (xs:=xs.map nI.az) (by rw [List.length_map];exact hu) (Fv wr _ (by intro y hy;obtain ⟨p,hp,rfl⟩:=List.mem_map.1 hy;exact (hI.out p hp).1));obtain ⟨Av,cv,Gv,rfl,hsv⟩:=Sl.oJ (xs:=xs.map nI.mem) (by rw [List.length_map];exact hv) (Fv wr _ (by intro y hy;obtain ⟨p,hp,rfl⟩:=List.mem_map.1 hy;exact (hI.out p hp).2.1));clear hu hv mZ;rcases cW:GZ (xs.map nI.az) 0 with _ | a <;> rcases gx:GZ (xs.map nI.mem) 0 with _ | b
   all_goals
    have bi:vU xs = _:=(by unfold vU;rw [cW,gx]);have HF:=I bi;have R1:=I cW;have R2:=I gx;clear cW gx bi;go_wp2_with fail
    refine (QZ (xs.map nI.az) Au _ cu Gu _ hsu S' Jd).mono ?_;rw [R1.out];rintro e w2 ⟨rfl,ar⟩;go_wp2_with fail
    refine (QZ (xs.map nI.mem) Av _ cv Gv _ (hsv.ext ar) S' Jd).mono ?_;rw [R2.out];rintro e w3 ⟨rfl,bb⟩;go_wp2;go_returns
    exact ⟨by rw [HF.out];rfl,ah (ah aR ar) bb⟩
theorem Q2 (xs:List nI) (A:Option Addr) (n c:Nat) (F:List Nat) (w:World) (h:Sl w xs A c F) (Z:n = xs.length) (hl:(xs.length:Int)≤1048576) :
 Calls Tryz.prog 93 #[.slice A n c] w fun e w'=>e = .returned (E4 (vU xs))∧Below w.heap.size w w':=by
 subst Z;have hI:=I h.Q1;go_enter Tryz.func93,Tryz.ntmps93;go_wp2_with fail
 go_loopw [5,6,7] (fun u v i wr=>∃(k:Nat),k≤xs.length∧i = .int .i64 k∧wr.ownsRow w.heap.size 3 1 u k (iv ((xs.take k).map nI.az))∧wr.ownsRow w.heap.size 3 1 v k (iv ((xs.take k).map nI.mem))∧DK u v∧Below w.heap.size w wr) (fun _ _ i _=>xs.length - (intOf i).toNat)
 case atStart =>exact Dl
 case round =>
  obtain ⟨k,hk,rfl,hu,hv,mZ,aR⟩:=hrel;have L':=hu.lt;by_cases ax:k < xs.length
  ·obtain ⟨b,o,ck,Fk,rfl,o9,hbs,hr,bB,hc⟩:=(Sl.ext (w':=wr) (A:=A) (c:=c) h aR).get ax;have yk:=h.lt b o9;obtain ⟨gu,gy,jw,oh,nT,wG,fA,fB,jY,aE,su,hname,dO,vg,cB,BJ,mX,eG⟩:=dL hr;subst aE;obtain ⟨q0,q1,q2,q3,q4,q5,q6⟩:=Qd 7 hc;clear hc
   go_wp2_with (first
    | (at_builtin
       refine uf EI O _ _ O _ _ _ _ _ hu O [.int .i64 xs[k].az] i6 O ex J J (aR.size) ?_;intro u2 w2 bN eA cw JN;have b4:some b≠u5.ownBlock:=(by intro e;have:=hu.lt _ e.symm;omega);replace q3:=eA.cell q3 b4;have ar:Below w.heap.size w w2:=lS hu eA aR aR.size;have gn:=hv.kept eA mZ.symm
       have qt:=mZ.grow (N:=_) hv J JN)
    | (at_builtin
       refine uf EI O _ _ O _ _ _ _ _ gn O [.int .i64 xs[k].mem] i6 O ex J J (ar.size) ?_;intro v2 w3 jx l6 cU qu;have bu:=bN.kept l6 qt;have DW:DK v2 u2:=qt.symm.grow (N:=_) bN J qu
       have bb:=lS gn l6 ar ar.size))
   exact DU
  ·have bF:k = xs.length:=J;subst bF;rw [List.take_length] at hu hv;obtain ⟨Au,cu,Gu,rfl,hsu⟩:=Sl.oJ (xs:=xs.map nI.az) (by rw [List.length_map];exact hu) (Fv wr _ (by intro y hy;obtain ⟨p,hp,rfl⟩:=List.mem_map.1 hy;exact (hI.out p hp).1));obtain ⟨Av,cv,Gv,rfl,hsv⟩:=Sl.oJ (xs:=xs.map nI.mem) (by rw [List.length_map];exact hv) (Fv wr _ (by intro y hy;obtain ⟨p,hp,rfl⟩:=List.mem_map.1 hy;exact (hI.out p hp).2.1));clear hu hv mZ;rcases cW:GZ (xs.map nI.az) 0 with _ | a <;> rcases gx:GZ (xs.map nI.mem) 0 with _ | b
   all_goals
    have bi:vU xs = _:=(by unfold vU;rw [cW,gx]);have HF:=I bi;have R1:=I cW;have R2:=I gx;clear cW gx bi;go_wp2_with fail
    refine (Q0 (xs.map nI.az) Au _ cu Gu _ hsu S' Jd).mono ?_;rw [R1.out];rintro e w2 ⟨rfl,ar⟩;go_wp2_with fail
    refine (Q0 (xs.map nI.mem) Av _ cv Gv _ (hsv.ext ar) S' Jd).mono ?_;rw [R2.out];rintro e w3 ⟨rfl,bb⟩;go_wp2;go_returns
    exact ⟨by rw [HF.out];rfl,ah (ah aR ar) bb⟩
def j4 (nm:ByteArray) (p:ag):Bool:=!(nm.toList == [])&&(p.on.toList == nm.toList)
def F7 (nm:ByteArray) (xs:List ag):List nI:=(xs.filter (j4 nm)).map ag.aS
theorem JP {nm:ByteArray} {xs:List ag} {k:Nat} (h:k < xs.length) (hp:j4 nm xs[k] = true):F7 nm (xs.take (k+1)) = F7 nm (xs.take k)++[xs[k].aS]:=by
 unfold F7;rw [List.take_succ_eq_append_getElem h,List.filter_append,List.map_append];simp [hp]
theorem YC {nm:ByteArray} {xs:List ag} {k:Nat} (h:k < xs.length) (hp:j4 nm xs[k] = false):F7 nm (xs.take (k+1)) = F7 nm (xs.take k):=by
 unfold F7;rw [List.take_succ_eq_append_getElem h,List.filter_append,List.map_append];simp [hp]
theorem NK (nm:ByteArray) (xs:List ag):(F7 nm xs).length≤xs.length:=by unfold F7;rw [List.length_map];exact List.length_filter_le _ _
theorem Q3 (nm:ByteArray) (xs:List ag) (k:Nat):(F7 nm (xs.take k)).length≤k:=Nat.le_trans (NK _ _) LC
theorem Q4 (nm:ByteArray) (xs:List ag) (h:nm.toList = []):F7 nm xs = []:=by
 unfold F7 j4;simp [h]
def KF (nm:ByteArray) (xs:List ag):Value :=
 match vU (F7 nm xs) with
 | some (a,b)=>.tuple #[.int .i64 a,.int .i64 b,.int .i64 (F7 nm xs).length,.bool true]
 | none=>.tuple #[.int .i64 0,.int .i64 0,.int .i64 0,.bool false]
theorem Xf:(Tryz.prog.info? 35).map (fun i=>(i.zero,i.size,i.bytes)) = some (some (.agg #[.string ⟨#[]⟩,.slice none 0 0,.int .i64 0,.int .i64 0,.int .i64 0,.slice none 0 0,.slice none 0 0]),7,112):=by kernel_rfl
theorem Q6:DL Tryz.prog 121 35 (.agg #[.string ⟨#[]⟩,.slice none 0 0,.int .i64 0,.int .i64 0,.int .i64 0,.slice none 0 0,.slice none 0 0]) 7 112:=⟨Tryz.underlying121,Xf,rfl,J⟩
theorem iQ (x:aU) (cs:List Value) (F:List Nat) (nm:ByteArray) (w:World) (h:rd w x cs F) (hl:(x.V.length:Int)≤1048576) :
 Calls Tryz.prog 43 #[.agg cs.toArray,.string nm] w fun e w'=>e = .returned (KF nm x.V)∧Below w.heap.size w w':=by
 obtain ⟨bG,bD,fQ,dn,bW,jg,aE,qp,bQ,dM,hnext,aV,aP,aW⟩:=aO h;subst aE;clear qp;go_enter Tryz.func43,Tryz.ntmps43;go_wp2_with fail
 go_loopw [8,18] (fun v i wr=>∃(k:Nat) (ds:List Value) (G:List Nat),k≤x.V.length∧i = .int .i64 k∧wr.ownsRow (w.heap.size+1) 35 7 v (F7 nm (x.V.take k)).length ds∧jo w (F7 nm (x.V.take k)) ds G∧wr.cell? ⟨w.heap.size,1,none⟩ = some (.slice dn x.V.length bW)∧Below w.heap.size w wr) (fun _ i _=>x.V.length - (intOf i).toNat)
 case atStart =>exact C'
 case round =>
  obtain ⟨k,ds,G,hk,rfl,bk,cb,hqc,aR⟩:=hrel;have E6:w.heap.size < wr.heap.size:=World.block_lt_of_cell? wr _ hqc;by_cases ax:k < x.V.length
  ·have AR:=Q3 nm x.V k;have Ma:some w.heap.size≠u8.ownBlock:=(by intro e;have:=bk.lt _ e.symm;omega);obtain ⟨b,o,ck,Fk,rfl,o9,hbs,hr,bB,hc⟩:=Sl.get (α:=ag) (A:=dn) (c:=bW) dM ax;obtain ⟨c1,c2,F1,F2,rfl,rfl,QS,_,_,_,_,rfl,rfl,⟨rfl,rfl,gR⟩,⟨rfl,rfl,hseq⟩⟩:=hr;have sr:=QS;obtain ⟨gV,gW,lF,iR,iT,mV,dD,dF,iH,aE,su,nY,iE,rF,rG,oZ,je,dN⟩:=dL QS;subst aE;clear su QS iE je dN;obtain ⟨q0,q1,q2,q3,q4,q5,q6,q7,q8⟩:=vL 9 hc;clear hc;replace q0:=r' aR q0 hbs;replace q1:=r' aR q1 hbs;replace q2:=r' aR q2 hbs;replace q3:=r' aR q3 hbs;replace q4:=r' aR q4 hbs;replace q5:=r' aR q5 hbs;replace q6:=r' aR q6 hbs;replace q7:=r' aR q7 hbs;replace q8:=r' aR q8 hbs;cases dB:(nm.toList == []) <;> cases cR:(x.V[k].on.toList == nm.toList)
   all_goals
    have hp:j4 nm x.V[k] = _:=Qj;simp only [Bool.not_true,Bool.not_false,Bool.true_and,Bool.false_and] at hp;have HP:=I hp;clear hp
    go_wp2_with (
     at_builtin
     go_must (refine lC Q6 O _ _ O _ _ _ _ _ (bk.alloc _) O [.string x.V[k].aS.name,.slice gV x.V[k].aS.labels.length gW,.int .i64 x.V[k].aS.az,.int .i64 x.V[k].aS.mem,.int .i64 x.V[k].aS.aw,.slice iR x.V[k].aS.ai.length iT,.slice dD x.V[k].aS.ae.length dF] i6 O ex J J Qh ?_)
     intro v2 w2 et eA cw;go_must (have ar:Below w.heap.size w w2:=lS (B:=w.heap.size) ((vP bk (Nat.le_succ _)).alloc _) eA (ak aR _) I8)
     go_must (have JQ:=eA.cell ((World.cell?_of_block (heap_alloc_old wr _ J)).trans hqc) Ma))
    first
     | exact ⟨⟨k+1,_,_,J,N',(by rw [YC ax HP.out];exact bk),Je,hqc,aR⟩,by simp [intOf];omega⟩
     | exact ⟨⟨k+1,_,_,J,N',(by rw [JP ax HP.out,List.length_append];exact et),(by rw [JP ax HP.out];exact cb.append (.single sr)),JQ,ar⟩,by simp [intOf];omega⟩
     | exact ⟨⟨k+1,_,_,J,N',(by rw [YC ax HP.out];exact bk.alloc _),Je,(World.cell?_of_block (heap_alloc_old wr _ J)).trans hqc,ak aR _⟩,by simp [intOf];omega⟩
  ·have bF:k = x.V.length:=J;subst bF;rw [List.take_length] at bk cb;obtain ⟨Al,cl,Gl,rfl,l5⟩:=Sl.oJ bk (cb.frame (fun b X=>aR.block b (cb.lt b X)) aR.size);have AR:=NK nm x.V;clear bk cb;rcases cW:vU (F7 nm x.V) with _ | ⟨a,b⟩
   all_goals
    have bi:KF nm x.V = _:=LD;have HF:=I bi;have R1:=I cW;clear cW bi;go_wp2_with fail
    refine (Xd (F7 nm x.V) Al _ cl Gl _ l5 rfl J).mono ?_;rw [R1.out];simp only [E4];rintro e w2 ⟨rfl,ar⟩;go_wp2;go_returns
    exact ⟨by rw [HF.out],ah aR ar⟩
theorem jm (x:aU) (cs:List Value) (F:List Nat) (nm:ByteArray) (w:World) (h:rd w x cs F) (hl:(x.V.length:Int)≤1048576) :
 Calls Tryz.prog 52 #[.agg cs.toArray,.string nm] w fun e w'=>e = .returned (KF nm x.V)∧Below w.heap.size w w':=by
 obtain ⟨bG,bD,fQ,dn,bW,jg,aE,qp,bQ,dM,hnext,aV,aP,aW⟩:=aO h;subst aE;clear qp;go_enter Tryz.func52,Tryz.ntmps52;go_wp2_with fail
 go_loopw [8,9] (fun v i wr=>∃(k:Nat) (ds:List Value) (G:List Nat),k≤x.V.length∧i = .int .i64 k∧wr.ownsRow (w.heap.size+1) 35 7 v (F7 nm (x.V.take k)).length ds∧jo w (F7 nm (x.V.take k)) ds G∧wr.cell? ⟨w.heap.size,1,none⟩ = some (.slice dn x.V.length bW)∧Below w.heap.size w wr) (fun _ i _=>x.V.length - (intOf i).toNat)
 case atStart =>exact C'
 case round =>
  obtain ⟨k,ds,G,hk,rfl,bk,cb,hqc,aR⟩:=hrel;have E6:w.heap.size < wr.heap.size:=World.block_lt_of_cell? wr _ hqc;cases dB:(nm.toList == []) with
  | true =>
    have he:nm.toList = []:=(by simpa using dB);rw [Q4 nm _ he,← Q4 nm x.V he] at bk cb;by_cases ax:k < x.V.length
    all_goals
     obtain ⟨Al,cl,Gl,rfl,l5⟩:=Sl.oJ bk (cb.frame (fun b X=>aR.block b (cb.lt b X)) aR.size);have AR:=NK nm x.V;clear bk cb;rcases cW:vU (F7 nm x.V) with _ | ⟨a,b⟩
     all_goals
      have bi:KF nm x.V = _:=LD;have HF:=I bi;have R1:=I cW;clear cW bi;go_wp2_with fail
      refine (Q2 (F7 nm x.V) Al _ cl Gl _ l5 rfl J).mono ?_;rw [R1.out];simp only [E4];rintro e w2 ⟨rfl,ar⟩;go_wp2;go_returns
      exact ⟨by rw [HF.out],ah aR ar⟩
  | false =>
    by_cases ax:k < x.V.length
    ·have AR:=Q3 nm x.V k;have Ma:some w.heap.size≠u8.ownBlock:=(by intro e;have:=bk.lt _ e.symm;omega);obtain ⟨b,o,ck,Fk,rfl,o9,hbs,hr,bB,hc⟩:=Sl.get (α:=ag) (A:=dn) (c:=bW) dM ax;obtain ⟨c1,c2,F1,F2,rfl,rfl,QS,_,_,_,_,rfl,rfl,⟨rfl,rfl,gR⟩,⟨rfl,rfl,hseq⟩⟩:=hr;have sr:=QS;obtain ⟨gV,gW,lF,iR,iT,mV,dD,dF,iH,aE,su,nY,iE,rF,rG,oZ,je,dN⟩:=dL QS;subst aE;clear su QS iE je dN;obtain ⟨q0,q1,q2,q3,q4,q5,q6,q7,q8⟩:=vL 9 hc;clear hc;replace q0:=r' aR q0 hbs;replace q1:=r' aR q1 hbs;replace q2:=r' aR q2 hbs;replace q3:=r' aR q3 hbs;replace q4:=r' aR q4 hbs;replace q5:=r' aR q5 hbs;replace q6:=r' aR q6 hbs;replace q7:=r' aR q7 hbs;replace q8:=r' aR q8 hbs;cases cR:(x.V[k].on.toList == nm.toList)
     all_goals
      have hp:j4 nm x.V[k] = _:=Qj;simp only [Bool.not_true,Bool.not_false,Bool.true_and,Bool.false_and] at hp;have HP:=I hp;clear hp
      go_wp2_with (
       at_builtin
       go_must (refine lC Q6 O _ _ O _ _ _ _ _ bk O [.string x.V[k].aS.name,.slice gV x.V[k].aS.labels.length gW,.int .i64 x.V[k].aS.az,.int .i64 x.V[k].aS.mem,.int .i64 x.V[k].aS.aw,.slice iR x.V[k].aS.ai.length iT,.slice dD x.V[k].aS.ae.length dF] i6 O ex J J Qh ?_)
       intro v2 w2 et eA cw;go_must (have ar:Below w.heap.size w w2:=lS (vP bk (Nat.le_succ _)) eA aR aR.size)
       go_must (have JQ:=eA.cell hqc Ma))
      first
       | exact ⟨⟨k+1,_,_,J,N',(by rw [YC ax HP.out];exact bk),Je,hqc,aR⟩,by simp [intOf];omega⟩
       | exact ⟨⟨k+1,_,_,J,N',(by rw [JP ax HP.out,List.length_append];exact et),(by rw [JP ax HP.out];exact cb.append (.single sr)),JQ,ar⟩,by simp [intOf];omega⟩
       | exact ⟨⟨k+1,_,_,J,N',(by rw [YC ax HP.out];exact bk.alloc _),Je,(World.cell?_of_block (heap_alloc_old wr _ J)).trans hqc,ak aR _⟩,by simp [intOf];omega⟩
    ·have bF:k = x.V.length:=J;subst bF;rw [List.take_length] at bk cb;obtain ⟨Al,cl,Gl,rfl,l5⟩:=Sl.oJ bk (cb.frame (fun b X=>aR.block b (cb.lt b X)) aR.size);have AR:=NK nm x.V;clear bk cb;rcases cW:vU (F7 nm x.V) with _ | ⟨a,b⟩
     all_goals
      have bi:KF nm x.V = _:=LD;have HF:=I bi;have R1:=I cW;clear cW bi;go_wp2_with fail
      refine (Q2 (F7 nm x.V) Al _ cl Gl _ l5 rfl J).mono ?_;rw [R1.out];simp only [E4];rintro e w2 ⟨rfl,ar⟩;go_wp2;go_returns
      exact ⟨by rw [HF.out],ah aR ar⟩
theorem BH {xs:List iU} (h:(kL iU.wt xs:Int)≤1048576):((xs.length:Int)≤1048576)∧∀l∈xs,(l.key.size:Int)≤1048576∧(l.value.size:Int)≤1048576:=by
 refine ⟨by have:=gJ iU.wt xs;omega,fun l hl=>?_⟩;have h1:=Bq (f:=iU.wt) hl;have e:iU.wt l = l.key.size+l.value.size:=rfl;omega
theorem FQ {xs:List bH} (h:(kL bH.wt xs:Int)≤1048576):((xs.length:Int)≤1048576)∧∀l∈xs,(l.key.size:Int)≤1048576∧(l.value.size:Int)≤1048576:=by
 refine ⟨by have:=gJ bH.wt xs;omega,fun l hl=>?_⟩;have h1:=Bq (f:=bH.wt) hl;have e:bH.wt l = l.key.size+l.value.size:=rfl;omega
theorem yg {α:Type} (p:α→Bool) (xs:List α):pK p xs = -1∨∃k:Nat,k < xs.length∧pK p xs = k:=by
 have:=Nc (p:=p) xs;by_cases h:pK p xs < 0
 ·left;omega
 ·right;exact ⟨(pK p xs).toNat,J,J⟩
theorem Aa {xs:List aM} (h:(kL aM.wt xs:Int)≤1048576):((xs.length:Int)≤1048576)∧(∀l∈xs,(l.key.size:Int)≤1048576∧(l.values.length:Int)≤1048576∧∀v∈l.values,(v.size:Int)≤1048576):=by
 refine ⟨by have:=gJ aM.wt xs;omega,fun l hl=>?_⟩;have h1:=Bq (f:=aM.wt) hl;have e:aM.wt l = l.key.size+AM l.values:=rfl;have h2:=gJ ByteArray.size l.values;unfold AM at e;refine ⟨J,J,fun v hv=>?_⟩;have h3:=Bq (f:=ByteArray.size) hv;omega
theorem sW {xs:List ap} (h:(kL ap.wt xs:Int)≤1048576):((xs.length:Int)≤1048576)∧∀l∈xs,(l.key.size:Int)≤1048576∧(l.value.size:Int)≤1048576:=by
 refine ⟨by have:=gJ ap.wt xs;omega,fun l hl=>?_⟩;have h1:=Bq (f:=ap.wt) hl;have e:ap.wt l = l.key.size+l.value.size:=rfl;omega
theorem M8:∀(xs:List Int) (s t:Int),(∀x∈xs,br x)→br s→GZ xs s = some t→br t
 | [],s,t,_,hs,h=>by simp only [GZ,Option.some.injEq] at h;subst h;exact hs
 | x :: xs,s,t,hx,hs,h=>by
   simp only [GZ] at h;cases e:GX s x with
   | none=>rw [e] at h;cases h
   | some m =>rw [e] at h;exact M8 xs m t (fun y hy=>hx y (List.mem_cons_of_mem _ hy)) (JJ e hs (hx x (List.mem_cons_self ..))) h
theorem ZP {xs:List nI} {a b:Int} (hx:∀p∈xs,br p.az∧br p.mem) (h:vU xs = some (a,b)):br a∧br b:=by
 unfold vU at h;cases e1:GZ (xs.map nI.az) 0 with
 | none=>rw [e1] at h;cases h
 | some m =>
   cases e2:GZ (xs.map nI.mem) 0 with
   | none=>rw [e1,e2] at h;cases h
   | some n =>
     rw [e1,e2] at h;simp only [Option.some.injEq,Prod.mk.injEq] at h;obtain ⟨rfl,rfl⟩:=h;have z:br 0:=⟨J,J⟩;refine ⟨M8 _ 0 _ (fun y hy=>?_) z e1,M8 _ 0 _ (fun y hy=>?_) z e2⟩
     ·obtain ⟨p,hp,rfl⟩:=List.mem_map.1 hy;exact (hx p hp).1
     ·obtain ⟨p,hp,rfl⟩:=List.mem_map.1 hy;exact (hx p hp).2
theorem ZQ {nm:ByteArray} {xs:List ag} {p:nI} (h:p∈F7 nm xs):∃q∈xs,p = q.aS:=by
 unfold F7 at h;obtain ⟨q,hq,rfl⟩:=List.mem_map.1 h;exact ⟨q,(List.mem_filter.1 hq).1,rfl⟩
theorem Sl.ZR {w:World} {xs:List ag} {A:Option Addr} {c:Nat} {F:List Nat} (h:Sl w xs A c F):∀p∈xs,br p.aS.az∧br p.aS.mem:=by
 intro p hp;obtain ⟨k,hk,rfl⟩:=List.getElem_of_mem hp;obtain ⟨b,o,ck,Fk,_,_,_,hr,_⟩:=h.get hk;obtain ⟨gV,gW,lF,iR,iT,mV,dD,dF,iH,aE,hF,nY,iE,rF,rG,oZ,je,dN,gR,hseq⟩:=kE hr;exact ⟨rF,rG⟩
theorem UD {w:World} {xs:List ag} {A:Option Addr} {c:Nat} {F:List Nat} {nm:ByteArray} {a b:Int} (h:Sl w xs A c F) (hs:vU (F7 nm xs) = some (a,b)):br a∧br b :=
 ZP (fun p hp=>by obtain ⟨q,hq,rfl⟩:=ZQ hp;exact h.ZR q hq) hs
theorem AX {nm:ByteArray} {xs:List ag} {a b:Int} (h:vU (F7 nm xs) = some (a,b)):KF nm xs = .tuple #[.int .i64 a,.int .i64 b,.int .i64 (F7 nm xs).length,.bool true]:=by unfold KF;rw [h]
theorem AV {nm:ByteArray} {xs:List ag} (h:vU (F7 nm xs) = none):KF nm xs = .tuple #[.int .i64 0,.int .i64 0,.int .i64 0,.bool false]:=by unfold KF;rw [h]
end Go.Proofs.YtajbbmembionpaaGreat
