/- AddInt, SumInts, SumsOf, of the program and of the reference. No condition. -/
import Derived.Test.YtjahcnjmjahbaaaGreatAppendAt
import Derived.Test.YtjahcnjmjahbaaaGreatRegion
namespace Go.Proofs.YtjahcnjmjahbaaaGreat
open Go.ChangeShapes Go.WideShapes Go.ChangeAt Go.RowKit
set_option linter.unusedVariables false
set_option linter.unusedSimpArgs false
set_option maxHeartbeats 1000000
set_option maxRecDepth 100000
def GX (a b:Int):Option Int:=if a < 0∨b < 0∨9223372036854775807 - b < a then none else some (a+b)
theorem TV {a b t:Int} (h:GX a b = some t) (ha:aR a) (hb:aR b):aR t:=by
 unfold GX at h;split at h
 ·cases h
 ·cases h
  unfold aR at *;omega
def GZ:List Int->Int->Option Int
 | [],s=>some s
 | x :: xs,s=>match GX s x with | none=>none | some m=>GZ xs m
theorem J9 (a b:Int) (w:World) (ha:aR a) (hb:aR b):Calls Tryz.prog 195 #[.int .i64 a,.int .i64 b] w λe w'=>e = .returned (.tuple #[.int .i64 ((GX a b).getD 0),.bool (GX a b).isSome])/\Below w.heap.size w w':=by
 obtain ⟨ha0,x6⟩:=ha;obtain ⟨fR,bi⟩:=hb;by_cases h1:a < 0
 ·exact Da
 by_cases h2:b < 0
 ·exact Da
 by_cases h3:9223372036854775807 - b < a
 ·exact Da
 ·have e:GX a b = some (a+b):=by unfold GX;rw [if_neg J]
  rw [e];go_enter Tryz.func195,Tryz.ntmps195;go_wp2;go_returns
  exact ⟨rfl,aj _⟩
theorem oQ (a b:Int) (w:World) (ha:aR a) (hb:aR b):Calls Tryz.prog 172 #[.int .i64 a,.int .i64 b] w λe w'=>e = .returned (.tuple #[.int .i64 ((GX a b).getD 0),.bool (GX a b).isSome])/\Below w.heap.size w w':=by
 obtain ⟨ha0,x6⟩:=ha;obtain ⟨fR,bi⟩:=hb;by_cases h1:a < 0
 ·exact Db
 by_cases h2:b < 0
 ·exact Db
 by_cases h3:9223372036854775807 - b < a
 ·exact Db
 ·have e:GX a b = some (a+b):=by unfold GX;rw [if_neg J]
  rw [e];go_enter Tryz.func172,Tryz.ntmps172;go_wp2;go_returns
  exact ⟨rfl,aj _⟩
theorem acC (xs:List Int) (A:Option Addr) (n c:Nat) (F:List Nat) (w:World) (h:Sl w xs A c F) (hn:n = xs.length) (hl:(xs.length:Int)<=1048576) :
 Calls Tryz.prog 166 #[.slice A n c] w λe w'=>e = .returned (.tuple #[.int .i64 ((GZ xs 0).getD 0),.bool (GZ xs 0).isSome])/\Below w.heap.size w w':=by
 subst hn;go_enter Tryz.func166,Tryz.ntmps166;go_wp2_with fail
 go_loopw [4,11] (λx i wr=>∃(k:Nat) (s:Int),k<=xs.length/\i = .int .i64 k/\x = .int .i64 s/\aR s/\Hid (GZ xs 0 = GZ (xs.drop k) s)/\Below w.heap.size w wr) (λ_ i _=>xs.length - (intOf i).toNat)
 case atStart=>exact ⟨0,0,Nat.zero_le _,rfl,rfl,⟨by decide,by decide⟩,rfl,aj _⟩
 case round =>
  obtain ⟨k,s,hk,rfl,rfl,hs,HS,ax⟩:=hrel;by_cases am:k < xs.length
  ·obtain ⟨b,o,ck,Fk,rfl,o9,hbs,hr,bm,hc⟩:=(Sl.ext (w':=wr) (A:=A) (c:=c) h ax).get am;obtain ⟨aq,su,hI⟩:=hr;subst aq su;have q0:wr.cell? ⟨b,o+k,none⟩ = some (.int .i64 xs[k]):=(by have:=hc 0 _ rfl;rwa [show o+(k * bd.size Int+0) = o+k from by show o+(k * 1+0) = _;omega] at this);clear hc;have x7:GZ (xs.drop k) s = GZ (xs[k] :: xs.drop (k+1)) s:=(by rw [List.getElem_cons_drop]);have Ef:=hs;have Eg:=hI;generalize TW:xs[k] = y at *;cases ha:GX s y with
   | none =>
     have hf:GZ xs 0 = none:=(by rw [HS.out,x7,GZ,ha]);have HF:=I hf;clear hf x7;have HA:=I ha;clear ha;go_wp2_with (go_at_call 195;refine (J9 s y _ Ef Eg).mono ?_;rw [HA.out];rintro e w2 ⟨rfl,ap⟩)
     go_returns
     exact ⟨by rw [HF.out];rfl,ah ax ap⟩
   | some t =>
     have hf:GZ xs 0 = GZ (xs.drop (k+1)) t:=(by rw [HS.out,x7,GZ,ha]);have HF:=I hf;have Xt:=TV ha Ef Eg;clear hf x7;have HA:=I ha;clear ha;go_wp2_with (go_at_call 195;refine (J9 s y _ Ef Eg).mono ?_;rw [HA.out];rintro e w2 ⟨rfl,ap⟩)
     exact ⟨⟨k+1,t,J,N',rfl,Xt,HF.out,ah ax ap⟩,by simp [intOf];omega⟩
  ·exact MA
theorem acD (xs:List Int) (A:Option Addr) (n c:Nat) (F:List Nat) (w:World) (h:Sl w xs A c F) (hn:n = xs.length) (hl:(xs.length:Int)<=1048576) :
 Calls Tryz.prog 143 #[.slice A n c] w λe w'=>e = .returned (.tuple #[.int .i64 ((GZ xs 0).getD 0),.bool (GZ xs 0).isSome])/\Below w.heap.size w w':=by
 subst hn;go_enter Tryz.func143,Tryz.ntmps143;go_wp2_with fail
 go_loopw [4,5] (λx i wr=>∃(k:Nat) (s:Int),k<=xs.length/\i = .int .i64 k/\x = .int .i64 s/\aR s/\Hid (GZ xs 0 = GZ (xs.drop k) s)/\Below w.heap.size w wr) (λ_ i _=>xs.length - (intOf i).toNat)
 case atStart=>exact ⟨0,0,Nat.zero_le _,rfl,rfl,⟨by decide,by decide⟩,rfl,aj _⟩
 case round =>
  obtain ⟨k,s,hk,rfl,rfl,hs,HS,ax⟩:=hrel;by_cases am:k < xs.length
  ·obtain ⟨b,o,ck,Fk,rfl,o9,hbs,hr,bm,hc⟩:=(Sl.ext (w':=wr) (A:=A) (c:=c) h ax).get am;obtain ⟨aq,su,hI⟩:=hr;subst aq su;have q0:wr.cell? ⟨b,o+k,none⟩ = some (.int .i64 xs[k]):=(by have:=hc 0 _ rfl;rwa [show o+(k * bd.size Int+0) = o+k from by show o+(k * 1+0) = _;omega] at this);clear hc;have x7:GZ (xs.drop k) s = GZ (xs[k] :: xs.drop (k+1)) s:=(by rw [List.getElem_cons_drop]);have Ef:=hs;have Eg:=hI;generalize TW:xs[k] = y at *;cases ha:GX s y with
   | none =>
     have hf:GZ xs 0 = none:=(by rw [HS.out,x7,GZ,ha]);have HF:=I hf;clear hf x7;have HA:=I ha;clear ha;go_wp2_with (go_at_call 172;refine (oQ s y _ Ef Eg).mono ?_;rw [HA.out];rintro e w2 ⟨rfl,ap⟩)
     go_returns
     exact ⟨by rw [HF.out];rfl,ah ax ap⟩
   | some t =>
     have hf:GZ xs 0 = GZ (xs.drop (k+1)) t:=(by rw [HS.out,x7,GZ,ha]);have HF:=I hf;have Xt:=TV ha Ef Eg;clear hf x7;have HA:=I ha;clear ha;go_wp2_with (go_at_call 172;refine (oQ s y _ Ef Eg).mono ?_;rw [HA.out];rintro e w2 ⟨rfl,ap⟩)
     exact ⟨⟨k+1,t,J,N',rfl,Xt,HF.out,ah ax ap⟩,by simp [intOf];omega⟩
  ·exact MA
def vU (xs:List nI):Option (Int × Int) :=
 match GZ (xs.map nI.aw) 0,GZ (xs.map nI.mem) 0 with
 | some a,some b=>some (a,b)
 | _,_=>none
def Pb:Option (Int × Int)->Value
 | some (a,b)=>.tuple #[.int .i64 a,.int .i64 b,.bool true]
 | none=>.tuple #[.int .i64 0,.int .i64 0,.bool false]
def iv (xs:List Int):List Value:=xs.map λn=>.int .i64 n
theorem ae7 {α:Type} (f:α->Int) (xs:List α) (k:Nat) (h:k < xs.length):iv ((xs.take (k+1)).map f) = iv ((xs.take k).map f)++[.int .i64 (f xs[k])]:=by
 unfold iv;rw [List.take_succ_eq_append_getElem h,List.map_append,List.map_append];rfl
theorem Sl.apG {w:World} {xs:List nI} {A:Option Addr} {c:Nat} {F:List Nat} (h:Sl w xs A c F):∀p∈xs,aR p.aw/\aR p.mem/\aR p.av:=by
 intro p hp;obtain ⟨k,hk,rfl⟩:=List.getElem_of_mem hp;obtain ⟨b,o,ck,Fk,_,_,_,hr,_,_⟩:=h.get hk;obtain ⟨gu,gy,jw,oh,nT,wG,fA,fB,jY,rfl,rfl,hname,dO,vg,b8,BJ,mX,eG⟩:=dL hr;exact ⟨vg,b8,BJ⟩
theorem am9 (xs:List nI) (A:Option Addr) (n c:Nat) (F:List Nat) (w:World) (h:Sl w xs A c F) (hn:n = xs.length) (hl:(xs.length:Int)<=1048576) :
 Calls Tryz.prog 117 #[.slice A n c] w λe w'=>e = .returned (Pb (vU xs))/\Below w.heap.size w w':=by
 subst hn;have hI:=I h.apG;go_enter Tryz.func117,Tryz.ntmps117;go_wp2_with fail
 go_loopw [5,6,17] (λu v i wr=>∃(k:Nat),k<=xs.length/\i = .int .i64 k/\wr.ownsRow w.heap.size 3 1 u k (iv ((xs.take k).map nI.aw))/\wr.ownsRow w.heap.size 3 1 v k (iv ((xs.take k).map nI.mem))/\DK u v/\Below w.heap.size w wr) (λ_ _ i _=>xs.length - (intOf i).toNat)
 case atStart =>exact Mr
 case round =>
  obtain ⟨k,hk,rfl,hu,hv,ov,ax⟩:=hrel;have Xu:=hu.lt;by_cases am:k < xs.length
  ·obtain ⟨b,o,ck,Fk,rfl,o9,hbs,hr,bm,hc⟩:=(Sl.ext (w':=wr) (A:=A) (c:=c) h ax).get am;have nB:=h.lt b o9;obtain ⟨gu,gy,jw,oh,nT,wG,fA,fB,jY,aq,su,hname,dO,vg,b8,BJ,mX,eG⟩:=dL hr;subst aq;obtain ⟨q0,q1,q2,q3,q4,q5,q6⟩:=e'7 7 hc;clear hc
   go_wp2_with (first
    | (at_builtin
       refine uf TH J' _ _ J' _ _ _ _ _ (hu.alloc _) J' [.int .i64 xs[k].aw] gn J' dv J J Tm ?_;intro u2 w2 ca eE cr Hy;have bN:some wr.heap.size≠u5.ownBlock:=(by intro e;have:=hu.lt _ e.symm;omega);have p3:w2.cell? ⟨wr.heap.size,3,none⟩ = some (.int .i64 xs[k].mem):=eE.cell awG bN;have ap:Below w.heap.size w w2:=lS (hu.alloc _) eE (ak ax _) Tm;have dt:=(hv.alloc _).kept eE ov.symm
       have s9:=ov.grow (N:=_) hv (by simp;omega) Hy)
    | (at_builtin
       refine uf TH J' _ _ J' _ _ _ _ _ dt J' [.int .i64 xs[k].mem] gn J' dv J J (ap.size) ?_;intro v2 w3 kF lh eN sf;have bJ:=ca.kept lh s9;have Ni:DK v2 u2:=s9.symm.grow (N:=_) ca J sf
       have ba:=lS dt lh ap ap.size))
   exact Ng
  ·have bs:k = xs.length:=J;subst bs;rw [List.take_length] at hu hv;obtain ⟨Au,cu,Gu,rfl,hsu⟩:=Sl.oJ (xs:=xs.map nI.aw) (by rw [List.length_map];exact hu) (Fv wr _ (by intro y hy;obtain ⟨p,hp,rfl⟩:=List.mem_map.1 hy;exact (hI.out p hp).1));obtain ⟨Av,cv,Gv,rfl,hsv⟩:=Sl.oJ (xs:=xs.map nI.mem) (by rw [List.length_map];exact hv) (Fv wr _ (by intro y hy;obtain ⟨p,hp,rfl⟩:=List.mem_map.1 hy;exact (hI.out p hp).2.1));clear hu hv ov;rcases f':GZ (xs.map nI.aw) 0 with _ | a <;> rcases fb:GZ (xs.map nI.mem) 0 with _ | b
   all_goals
    have bb:vU xs = _:=(by unfold vU;rw [f',fb]);have HF:=I bb;have R1:=I f';have R2:=I fb;clear f' fb bb;go_wp2_with fail
    refine (acC (xs.map nI.aw) Au _ cu Gu _ hsu S' Tt).mono ?_;rw [R1.out];rintro e w2 ⟨rfl,ap⟩;go_wp2_with fail
    refine (acC (xs.map nI.mem) Av _ cv Gv _ (hsv.ext ap) S' Tt).mono ?_;rw [R2.out];rintro e w3 ⟨rfl,ba⟩;go_wp2;go_returns
    exact ⟨by rw [HF.out];rfl,ah (ah ax ap) ba⟩
theorem ad8 (xs:List nI) (A:Option Addr) (n c:Nat) (F:List Nat) (w:World) (h:Sl w xs A c F) (hn:n = xs.length) (hl:(xs.length:Int)<=1048576) :
 Calls Tryz.prog 94 #[.slice A n c] w λe w'=>e = .returned (Pb (vU xs))/\Below w.heap.size w w':=by
 subst hn;have hI:=I h.apG;go_enter Tryz.func94,Tryz.ntmps94;go_wp2_with fail
 go_loopw [5,6,7] (λu v i wr=>∃(k:Nat),k<=xs.length/\i = .int .i64 k/\wr.ownsRow w.heap.size 3 1 u k (iv ((xs.take k).map nI.aw))/\wr.ownsRow w.heap.size 3 1 v k (iv ((xs.take k).map nI.mem))/\DK u v/\Below w.heap.size w wr) (λ_ _ i _=>xs.length - (intOf i).toNat)
 case atStart =>exact Mr
 case round =>
  obtain ⟨k,hk,rfl,hu,hv,ov,ax⟩:=hrel;have Xu:=hu.lt;by_cases am:k < xs.length
  ·obtain ⟨b,o,ck,Fk,rfl,o9,hbs,hr,bm,hc⟩:=(Sl.ext (w':=wr) (A:=A) (c:=c) h ax).get am;have nB:=h.lt b o9;obtain ⟨gu,gy,jw,oh,nT,wG,fA,fB,jY,aq,su,hname,dO,vg,b8,BJ,mX,eG⟩:=dL hr;subst aq;obtain ⟨q0,q1,q2,q3,q4,q5,q6⟩:=e'7 7 hc;clear hc
   go_wp2_with (first
    | (at_builtin
       refine uf TH J' _ _ J' _ _ _ _ _ hu J' [.int .i64 xs[k].aw] gn J' dv J J (ax.size) ?_;intro u2 w2 ca eE cr Hy;have bN:some b≠u5.ownBlock:=(by intro e;have:=hu.lt _ e.symm;omega);replace q3:=eE.cell q3 bN;have ap:Below w.heap.size w w2:=lS hu eE ax ax.size;have dt:=hv.kept eE ov.symm
       have s9:=ov.grow (N:=_) hv J Hy)
    | (at_builtin
       refine uf TH J' _ _ J' _ _ _ _ _ dt J' [.int .i64 xs[k].mem] gn J' dv J J (ap.size) ?_;intro v2 w3 kF lh eN sf;have bJ:=ca.kept lh s9;have Ni:DK v2 u2:=s9.symm.grow (N:=_) ca J sf
       have ba:=lS dt lh ap ap.size))
   exact Ng
  ·have bs:k = xs.length:=J;subst bs;rw [List.take_length] at hu hv;obtain ⟨Au,cu,Gu,rfl,hsu⟩:=Sl.oJ (xs:=xs.map nI.aw) (by rw [List.length_map];exact hu) (Fv wr _ (by intro y hy;obtain ⟨p,hp,rfl⟩:=List.mem_map.1 hy;exact (hI.out p hp).1));obtain ⟨Av,cv,Gv,rfl,hsv⟩:=Sl.oJ (xs:=xs.map nI.mem) (by rw [List.length_map];exact hv) (Fv wr _ (by intro y hy;obtain ⟨p,hp,rfl⟩:=List.mem_map.1 hy;exact (hI.out p hp).2.1));clear hu hv ov;rcases f':GZ (xs.map nI.aw) 0 with _ | a <;> rcases fb:GZ (xs.map nI.mem) 0 with _ | b
   all_goals
    have bb:vU xs = _:=(by unfold vU;rw [f',fb]);have HF:=I bb;have R1:=I f';have R2:=I fb;clear f' fb bb;go_wp2_with fail
    refine (acD (xs.map nI.aw) Au _ cu Gu _ hsu S' Tt).mono ?_;rw [R1.out];rintro e w2 ⟨rfl,ap⟩;go_wp2_with fail
    refine (acD (xs.map nI.mem) Av _ cv Gv _ (hsv.ext ap) S' Tt).mono ?_;rw [R2.out];rintro e w3 ⟨rfl,ba⟩;go_wp2;go_returns
    exact ⟨by rw [HF.out];rfl,ah (ah ax ap) ba⟩
def kr (nm:ByteArray) (p:ag):Bool:=!(nm.toList == [])&&(p.on.toList == nm.toList)
def F7 (nm:ByteArray) (xs:List ag):List nI:=(xs.filter (kr nm)).map ag.aS
theorem TX {nm:ByteArray} {xs:List ag} {k:Nat} (h:k < xs.length) (hp:kr nm xs[k] = true):F7 nm (xs.take (k+1)) = F7 nm (xs.take k)++[xs[k].aS]:=by
 unfold F7;rw [List.take_succ_eq_append_getElem h,List.filter_append,List.map_append];simp [hp]
theorem YC {nm:ByteArray} {xs:List ag} {k:Nat} (h:k < xs.length) (hp:kr nm xs[k] = false):F7 nm (xs.take (k+1)) = F7 nm (xs.take k):=by
 unfold F7;rw [List.take_succ_eq_append_getElem h,List.filter_append,List.map_append];simp [hp]
theorem NK (nm:ByteArray) (xs:List ag):(F7 nm xs).length<=xs.length:=by unfold F7;rw [List.length_map];exact List.length_filter_le _ _
theorem acI (nm:ByteArray) (xs:List ag) (k:Nat):(F7 nm (xs.take k)).length<=k:=Nat.le_trans (NK _ _) Wq
theorem ajl (nm:ByteArray) (xs:List ag) (h:nm.toList = []):F7 nm xs = []:=by
 unfold F7 kr;simp [h]
def KF (nm:ByteArray) (xs:List ag):Value :=
 match vU (F7 nm xs) with
 | some (a,b)=>.tuple #[.int .i64 a,.int .i64 b,.int .i64 (F7 nm xs).length,.bool true]
 | none=>.tuple #[.int .i64 0,.int .i64 0,.int .i64 0,.bool false]
theorem asM:(Tryz.prog.info? 46).map (λi=>(i.zero,i.size,i.bytes)) = some (some (.agg #[.string ⟨#[]⟩,.slice none 0 0,.int .i64 0,.int .i64 0,.int .i64 0,.slice none 0 0,.slice none 0 0]),7,112):=by kernel_rfl
theorem asN:DL Tryz.prog 139 46 (.agg #[.string ⟨#[]⟩,.slice none 0 0,.int .i64 0,.int .i64 0,.int .i64 0,.slice none 0 0,.slice none 0 0]) 7 112:=⟨Tryz.underlying139,asM,rfl,J⟩
theorem iQ (x:aU) (cs:List Value) (F:List Nat) (nm:ByteArray) (w:World) (h:rd w x cs F) (hl:(x.O.length:Int)<=1048576) :
 Calls Tryz.prog 70 #[.agg cs.toArray,.string nm] w λe w'=>e = .returned (KF nm x.O)/\Below w.heap.size w w':=by
 obtain ⟨bG,bD,fQ,dn,bW,jg,aq,qp,bQ,dM,hnext,aV,aP,aW⟩:=aO h;subst aq;clear qp;go_enter Tryz.func70,Tryz.ntmps70;go_wp2_with fail
 go_loopw [8,18] (λv i wr=>∃(k:Nat) (ds:List Value) (G:List Nat),k<=x.O.length/\i = .int .i64 k/\wr.ownsRow (w.heap.size+1) 46 7 v (F7 nm (x.O.take k)).length ds/\jo w (F7 nm (x.O.take k)) ds G/\wr.cell? ⟨w.heap.size,1,none⟩ = some (.slice dn x.O.length bW)/\Below w.heap.size w wr) (λ_ i _=>x.O.length - (intOf i).toNat)
 case atStart =>exact Mf
 case round =>
  obtain ⟨k,ds,G,hk,rfl,ar,bS,hqc,ax⟩:=hrel;have Pc:w.heap.size < wr.heap.size:=World.block_lt_of_cell? wr _ hqc;by_cases am:k < x.O.length
  ·have Iv:=acI nm x.O k;have Xv:some w.heap.size≠u8.ownBlock:=(by intro e;have:=ar.lt _ e.symm;omega);obtain ⟨b,o,ck,Fk,rfl,o9,hbs,hr,bm,hc⟩:=Sl.get (α:=ag) (A:=dn) (c:=bW) dM am;obtain ⟨c1,c2,F1,F2,rfl,rfl,QS,_,_,_,_,rfl,rfl,⟨rfl,rfl,eI⟩,⟨rfl,rfl,hseq⟩⟩:=hr;have vj:=QS;obtain ⟨gV,gW,lF,iR,iT,mV,dD,dF,iH,aq,su,nY,iE,rF,rG,oZ,je,dN⟩:=dL QS;subst aq;clear su QS iE je dN;obtain ⟨q0,q1,q2,q3,q4,q5,q6,q7,q8⟩:=oY 9 hc;clear hc;replace q0:=r' ax q0 hbs;replace q1:=r' ax q1 hbs;replace q2:=r' ax q2 hbs;replace q3:=r' ax q3 hbs;replace q4:=r' ax q4 hbs;replace q5:=r' ax q5 hbs;replace q6:=r' ax q6 hbs;replace q7:=r' ax q7 hbs;replace q8:=r' ax q8 hbs;cases cF:(nm.toList == []) <;> cases cC:(x.O[k].on.toList == nm.toList)
   all_goals
    have hp:kr nm x.O[k] = _:=avV;simp only [Bool.not_true,Bool.not_false,Bool.true_and,Bool.false_and] at hp;have HP:=I hp;clear hp
    go_wp2_with (
     at_builtin
     go_must (refine lC asN J' _ _ J' _ _ _ _ _ (ar.alloc _) J' [.string x.O[k].aS.name,.slice gV x.O[k].aS.labels.length gW,.int .i64 x.O[k].aS.aw,.int .i64 x.O[k].aS.mem,.int .i64 x.O[k].aS.av,.slice iR x.O[k].aS.af.length iT,.slice dD x.O[k].aS.ae.length dF] gn J' dv J J avJ ?_)
     intro v2 w2 bR eE cr;go_must (have ap:Below w.heap.size w w2:=lS (B:=w.heap.size) ((vP ar (Nat.le_succ _)).alloc _) eE (ak ax _) Tm)
     go_must (have TZ:=eE.cell ((World.cell?_of_block (heap_alloc_old wr _ J)).trans hqc) Xv))
    first
     | exact ⟨⟨k+1,_,_,J,N',(by rw [YC am HP.out];exact ar),Tu,hqc,ax⟩,by simp [intOf];omega⟩
     | exact ⟨⟨k+1,_,_,J,N',(by rw [TX am HP.out,List.length_append];exact bR),(by rw [TX am HP.out];exact bS.append (.single vj)),TZ,ap⟩,by simp [intOf];omega⟩
     | exact ⟨⟨k+1,_,_,J,N',(by rw [YC am HP.out];exact ar.alloc _),Tu,(World.cell?_of_block (heap_alloc_old wr _ J)).trans hqc,ak ax _⟩,by simp [intOf];omega⟩
  ·have bs:k = x.O.length:=J;subst bs;rw [List.take_length] at ar bS;obtain ⟨Al,cl,Gl,rfl,ox⟩:=Sl.oJ ar (bS.frame (λb hb=>ax.block b (bS.lt b hb)) ax.size);have Iv:=NK nm x.O;clear ar bS;rcases f':vU (F7 nm x.O) with _ | ⟨a,b⟩
   all_goals
    have bb:KF nm x.O = _:=Wr;have HF:=I bb;have R1:=I f';clear f' bb;go_wp2_with fail
    refine (am9 (F7 nm x.O) Al _ cl Gl _ ox rfl J).mono ?_;rw [R1.out];simp only [Pb];rintro e w2 ⟨rfl,ap⟩;go_wp2;go_returns
    exact ⟨by rw [HF.out],ah ax ap⟩
theorem jm (x:aU) (cs:List Value) (F:List Nat) (nm:ByteArray) (w:World) (h:rd w x cs F) (hl:(x.O.length:Int)<=1048576) :
 Calls Tryz.prog 57 #[.agg cs.toArray,.string nm] w λe w'=>e = .returned (KF nm x.O)/\Below w.heap.size w w':=by
 obtain ⟨bG,bD,fQ,dn,bW,jg,aq,qp,bQ,dM,hnext,aV,aP,aW⟩:=aO h;subst aq;clear qp;go_enter Tryz.func57,Tryz.ntmps57;go_wp2_with fail
 go_loopw [8,9] (λv i wr=>∃(k:Nat) (ds:List Value) (G:List Nat),k<=x.O.length/\i = .int .i64 k/\wr.ownsRow (w.heap.size+1) 46 7 v (F7 nm (x.O.take k)).length ds/\jo w (F7 nm (x.O.take k)) ds G/\wr.cell? ⟨w.heap.size,1,none⟩ = some (.slice dn x.O.length bW)/\Below w.heap.size w wr) (λ_ i _=>x.O.length - (intOf i).toNat)
 case atStart =>exact Mf
 case round =>
  obtain ⟨k,ds,G,hk,rfl,ar,bS,hqc,ax⟩:=hrel;have Pc:w.heap.size < wr.heap.size:=World.block_lt_of_cell? wr _ hqc;cases cF:(nm.toList == []) with
  | true =>
    have he:nm.toList = []:=(by simpa using cF);rw [ajl nm _ he,<- ajl nm x.O he] at ar bS;by_cases am:k < x.O.length
    all_goals
     obtain ⟨Al,cl,Gl,rfl,ox⟩:=Sl.oJ ar (bS.frame (λb hb=>ax.block b (bS.lt b hb)) ax.size);have Iv:=NK nm x.O;clear ar bS;rcases f':vU (F7 nm x.O) with _ | ⟨a,b⟩
     all_goals
      have bb:KF nm x.O = _:=Wr;have HF:=I bb;have R1:=I f';clear f' bb;go_wp2_with fail
      refine (ad8 (F7 nm x.O) Al _ cl Gl _ ox rfl J).mono ?_;rw [R1.out];simp only [Pb];rintro e w2 ⟨rfl,ap⟩;go_wp2;go_returns
      exact ⟨by rw [HF.out],ah ax ap⟩
  | false =>
    by_cases am:k < x.O.length
    ·have Iv:=acI nm x.O k;have Xv:some w.heap.size≠u8.ownBlock:=(by intro e;have:=ar.lt _ e.symm;omega);obtain ⟨b,o,ck,Fk,rfl,o9,hbs,hr,bm,hc⟩:=Sl.get (α:=ag) (A:=dn) (c:=bW) dM am;obtain ⟨c1,c2,F1,F2,rfl,rfl,QS,_,_,_,_,rfl,rfl,⟨rfl,rfl,eI⟩,⟨rfl,rfl,hseq⟩⟩:=hr;have vj:=QS;obtain ⟨gV,gW,lF,iR,iT,mV,dD,dF,iH,aq,su,nY,iE,rF,rG,oZ,je,dN⟩:=dL QS;subst aq;clear su QS iE je dN;obtain ⟨q0,q1,q2,q3,q4,q5,q6,q7,q8⟩:=oY 9 hc;clear hc;replace q0:=r' ax q0 hbs;replace q1:=r' ax q1 hbs;replace q2:=r' ax q2 hbs;replace q3:=r' ax q3 hbs;replace q4:=r' ax q4 hbs;replace q5:=r' ax q5 hbs;replace q6:=r' ax q6 hbs;replace q7:=r' ax q7 hbs;replace q8:=r' ax q8 hbs;cases cC:(x.O[k].on.toList == nm.toList)
     all_goals
      have hp:kr nm x.O[k] = _:=avV;simp only [Bool.not_true,Bool.not_false,Bool.true_and,Bool.false_and] at hp;have HP:=I hp;clear hp
      go_wp2_with (
       at_builtin
       go_must (refine lC asN J' _ _ J' _ _ _ _ _ ar J' [.string x.O[k].aS.name,.slice gV x.O[k].aS.labels.length gW,.int .i64 x.O[k].aS.aw,.int .i64 x.O[k].aS.mem,.int .i64 x.O[k].aS.av,.slice iR x.O[k].aS.af.length iT,.slice dD x.O[k].aS.ae.length dF] gn J' dv J J avJ ?_)
       intro v2 w2 bR eE cr;go_must (have ap:Below w.heap.size w w2:=lS (vP ar (Nat.le_succ _)) eE ax ax.size)
       go_must (have TZ:=eE.cell hqc Xv))
      first
       | exact ⟨⟨k+1,_,_,J,N',(by rw [YC am HP.out];exact ar),Tu,hqc,ax⟩,by simp [intOf];omega⟩
       | exact ⟨⟨k+1,_,_,J,N',(by rw [TX am HP.out,List.length_append];exact bR),(by rw [TX am HP.out];exact bS.append (.single vj)),TZ,ap⟩,by simp [intOf];omega⟩
       | exact ⟨⟨k+1,_,_,J,N',(by rw [YC am HP.out];exact ar.alloc _),Tu,(World.cell?_of_block (heap_alloc_old wr _ J)).trans hqc,ak ax _⟩,by simp [intOf];omega⟩
    ·have bs:k = x.O.length:=J;subst bs;rw [List.take_length] at ar bS;obtain ⟨Al,cl,Gl,rfl,ox⟩:=Sl.oJ ar (bS.frame (λb hb=>ax.block b (bS.lt b hb)) ax.size);have Iv:=NK nm x.O;clear ar bS;rcases f':vU (F7 nm x.O) with _ | ⟨a,b⟩
     all_goals
      have bb:KF nm x.O = _:=Wr;have HF:=I bb;have R1:=I f';clear f' bb;go_wp2_with fail
      refine (ad8 (F7 nm x.O) Al _ cl Gl _ ox rfl J).mono ?_;rw [R1.out];simp only [Pb];rintro e w2 ⟨rfl,ap⟩;go_wp2;go_returns
      exact ⟨by rw [HF.out],ah ax ap⟩
end Go.Proofs.YtjahcnjmjahbaaaGreat
