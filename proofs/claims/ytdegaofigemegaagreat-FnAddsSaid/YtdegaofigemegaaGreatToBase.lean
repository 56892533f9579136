/- laws' copies. -/
import Derived.Test.YtdegaofigemegaaGreatRegion
import Derived.Test.YtdegaofigemegaaGreatAppendAt
namespace Go.Proofs.YtdegaofigemegaaGreat
open Go.ChangeShapes Go.WideShapes Go.ChangeAt Go.RowKit
set_option linter.unusedVariables false
set_option linter.unusedSimpArgs false
set_option maxHeartbeats 1000000
set_option maxRecDepth 100000
section
variable {α β:Type} [ax α] [ax β] {w:World} {B B2:Nat} {x:α} {y:β} {c1 c2:List Value} {F1 F2:List Nat}
theorem ai.pair (h1:ai w B x c1 F1) (h2:ai w B2 y c2 F2) (hB:B<=B2) (hF:∀b∈F1,b < B2):ai w B (x,y) (c1++c2) (F1++F2):=by
 refine ⟨⟨c1,c2,F1,F2,rfl,rfl,h1.rd,h2.rd⟩,?_,?_,?_⟩
 ·rw [List.nodup_append];exact ⟨h1.nodup,h2.nodup,λa ha b hb=>by have:=hF a ha;have:=h2.base b hb;omega⟩
 ·intro b hb;rcases List.mem_append.1 hb with hb | hb
  ·exact h1.base b hb
  ·exact Nat.le_trans hB (h2.base b hb)
 ·exact Lj
theorem ai.up {γ:Type} {z:γ} {cs:List Value} {F:List Nat} {B':Nat} (g:γ->β) (h:ai w B' (g z) cs F) (hB:B<=B'):@ai γ (ax.rz g) w B z cs F :=
 @ai.mk γ (ax.rz g) w B z cs F h.rd h.nodup (λb hb=>Nat.le_trans hB (h.base b hb)) h.plain
theorem ai.cons (h1:Go.Proofs.YtdegaofigemegaaGreat.ax.rd w x c1 []) (h2:ai w B y c2 F2):ai w B (x,y) (c1++c2) F2:=by
 have:=(ai.flat (B:=B) h1).pair h2 (Nat.le_refl _) (λb hb=>by cases hb);simpa using this
end
theorem ao2:(Tryz.prog.info? 9).map (λi=>(i.zero,i.size,i.bytes)) = some (some (.string ⟨#[]⟩),1,16):=by kernel_rfl
theorem qw:DL Tryz.prog 101 9 (.string ⟨#[]⟩) 1 16:=⟨Tryz.underlying101,ao2,rfl,J⟩
theorem Ce {a b:ByteArray} (h:(a.toList == b.toList) = true):a = b:=by
 have h1:a.toList = b.toList:=by simpa using h
 have h2:a.data.toList = b.data.toList:=by rw [<- ByteArray.toList_eq,<- ByteArray.toList_eq];exact h1
 cases a;cases b;simp_all
def oT (a b:ByteArray):Bool:=a.toList == b.toList
theorem PW (a b:ByteArray):oT a b = true↔a = b:=⟨Ce,λh=>by subst h;simp [oT]⟩
def same {α:Type} (eq:α->α->Bool):List α->List α->Bool
 | [],[]=>true
 | a :: l,b :: m=>eq a b&&same eq l m
 | _,_=>false
def Aq (a b:iU):Bool:=(a.key.toList == b.key.toList)&&(a.value.toList == b.value.toList)&&(a.effect == b.effect)
theorem Xx (a b:iU):Aq a b = true↔a = b:=by
 constructor
 ·intro h;simp only [Aq,Bool.and_eq_true] at h;have h0:=Ce h.1.1;have h1:=Ce h.1.2;have h2:=eq_of_beq h.2;cases a;cases b
  simp only at h0 h1 h2;subst h0 h1 h2;rfl
 ·rintro rfl;simp [Aq, *]
def oP (a b:bH):Bool:=(a.key.toList == b.key.toList)&&(a.equal == b.equal)&&(a.value.toList == b.value.toList)&&(a.effect == b.effect)
theorem WC (a b:bH):oP a b = true↔a = b:=by
 constructor
 ·intro h;simp only [oP,Bool.and_eq_true] at h;have h0:=Ce h.1.1.1;have h1:=eq_of_beq h.1.1.2;have h2:=Ce h.1.2;have h3:=eq_of_beq h.2;cases a;cases b
  simp only at h0 h1 h2 h3;subst h0 h1 h2 h3;rfl
 ·rintro rfl;simp [oP, *]
theorem aZ {α:Type} [ax α] {w w':World} {x:α} {cs:List Value} {F:List Nat} (h:rd w x cs F) (hb:Below w.heap.size w w'):rd w' x cs F :=
 ax.frame h (λb dP=>hb.block b (ax.lt h b dP)) hb.size
def GX (a b:Int):Option Int:=if a < 0∨b < 0∨9223372036854775807 - b < a then none else some (a+b)
theorem RU {a b t:Int} (h:GX a b = some t) (ha:bt a) (hb:bt b):bt t:=by
 unfold GX at h;split at h
 ·cases h
 ·cases h
  unfold bt at *;omega
def GZ:List Int->Int->Option Int
 | [],s=>some s
 | x :: xs,s=>match GX s x with | none=>none | some m=>GZ xs m
theorem J9 (a b:Int) (w:World) (ha:bt a) (hb:bt b):Calls Tryz.prog 146 #[.int .i64 a,.int .i64 b] w λe w'=>e = .returned (.tuple #[.int .i64 ((GX a b).getD 0),.bool (GX a b).isSome])/\Below w.heap.size w w':=by
 obtain ⟨UX,ha1⟩:=ha;obtain ⟨cY,aR⟩:=hb;by_cases h1:a < 0
 ·exact DJ
 by_cases h2:b < 0
 ·exact DJ
 by_cases h3:9223372036854775807 - b < a
 ·exact DJ
 ·have e:GX a b = some (a+b):=by unfold GX;rw [if_neg J]
  rw [e];go_enter Tryz.func146,Tryz.ntmps146;go_wp2;go_returns
  exact ⟨rfl,aj _⟩
theorem oQ (a b:Int) (w:World) (ha:bt a) (hb:bt b):Calls Tryz.prog 219 #[.int .i64 a,.int .i64 b] w λe w'=>e = .returned (.tuple #[.int .i64 ((GX a b).getD 0),.bool (GX a b).isSome])/\Below w.heap.size w w':=by
 obtain ⟨UX,ha1⟩:=ha;obtain ⟨cY,aR⟩:=hb;by_cases h1:a < 0
 ·exact DM
 by_cases h2:b < 0
 ·exact DM
 by_cases h3:9223372036854775807 - b < a
 ·exact DM
 ·have e:GX a b = some (a+b):=by unfold GX;rw [if_neg J]
  rw [e];go_enter Tryz.func219,Tryz.ntmps219;go_wp2;go_returns
  exact ⟨rfl,aj _⟩
theorem acC (xs:List Int) (A:Option Addr) (n c:Nat) (F:List Nat) (w:World) (h:Sl w xs A c F) (hn:n = xs.length) (hl:(xs.length:Int)<=1048576) :
 Calls Tryz.prog 102 #[.slice A n c] w λe w'=>e = .returned (.tuple #[.int .i64 ((GZ xs 0).getD 0),.bool (GZ xs 0).isSome])/\Below w.heap.size w w':=by
 subst hn;go_enter Tryz.func102,Tryz.ntmps102;go_wp2_with fail
 go_loopw [4,11] (λx i wr=>∃(k:Nat) (s:Int),k<=xs.length/\i = .int .i64 k/\x = .int .i64 s/\bt s/\Hid (GZ xs 0 = GZ (xs.drop k) s)/\Below w.heap.size w wr) (λ_ i _=>xs.length - (intOf i).toNat)
 case atStart=>exact ⟨0,0,Nat.zero_le _,rfl,rfl,⟨by decide,by decide⟩,rfl,aj _⟩
 case round =>
  obtain ⟨k,s,hk,rfl,rfl,hs,HS,aM⟩:=hrel;by_cases ap:k < xs.length
  ·obtain ⟨b,o,ck,Fk,rfl,o9,hbs,hr,bi,hc⟩:=(Sl.ext (w':=wr) (A:=A) (c:=c) h aM).get ap;obtain ⟨ar,su,hI⟩:=hr;subst ar su;have q0:wr.cell? ⟨b,o+k,none⟩ = some (.int .i64 xs[k]):=(by have:=hc 0 _ rfl;rwa [show o+(k * ax.size Int+0) = o+k from by show o+(k * 1+0) = _;omega] at this);clear hc;have ki:GZ (xs.drop k) s = GZ (xs[k] :: xs.drop (k+1)) s:=(by rw [List.getElem_cons_drop]);have ES:=hs;have ET:=hI;generalize hxk:xs[k] = y at *;cases ha:GX s y with
   | none =>
     have hf:GZ xs 0 = none:=(by rw [HS.out,ki,GZ,ha]);have HF:=I hf;clear hf ki;have HA:=I ha;clear ha;go_wp2_with (go_at_call 146;refine (J9 s y _ ES ET).mono ?_;rw [HA.out];rintro e w2 ⟨rfl,am⟩)
     go_returns
     exact ⟨by rw [HF.out];rfl,ah aM am⟩
   | some t =>
     have hf:GZ xs 0 = GZ (xs.drop (k+1)) t:=(by rw [HS.out,ki,GZ,ha]);have HF:=I hf;have Hm:=RU ha ES ET;clear hf ki;have HA:=I ha;clear ha;go_wp2_with (go_at_call 146;refine (J9 s y _ ES ET).mono ?_;rw [HA.out];rintro e w2 ⟨rfl,am⟩)
     exact ⟨⟨k+1,t,J,N',rfl,Hm,HF.out,ah aM am⟩,by simp [intOf];omega⟩
  ·exact Ma
theorem acD (xs:List Int) (A:Option Addr) (n c:Nat) (F:List Nat) (w:World) (h:Sl w xs A c F) (hn:n = xs.length) (hl:(xs.length:Int)<=1048576) :
 Calls Tryz.prog 170 #[.slice A n c] w λe w'=>e = .returned (.tuple #[.int .i64 ((GZ xs 0).getD 0),.bool (GZ xs 0).isSome])/\Below w.heap.size w w':=by
 subst hn;go_enter Tryz.func170,Tryz.ntmps170;go_wp2_with fail
 go_loopw [4,5] (λx i wr=>∃(k:Nat) (s:Int),k<=xs.length/\i = .int .i64 k/\x = .int .i64 s/\bt s/\Hid (GZ xs 0 = GZ (xs.drop k) s)/\Below w.heap.size w wr) (λ_ i _=>xs.length - (intOf i).toNat)
 case atStart=>exact ⟨0,0,Nat.zero_le _,rfl,rfl,⟨by decide,by decide⟩,rfl,aj _⟩
 case round =>
  obtain ⟨k,s,hk,rfl,rfl,hs,HS,aM⟩:=hrel;by_cases ap:k < xs.length
  ·obtain ⟨b,o,ck,Fk,rfl,o9,hbs,hr,bi,hc⟩:=(Sl.ext (w':=wr) (A:=A) (c:=c) h aM).get ap;obtain ⟨ar,su,hI⟩:=hr;subst ar su;have q0:wr.cell? ⟨b,o+k,none⟩ = some (.int .i64 xs[k]):=(by have:=hc 0 _ rfl;rwa [show o+(k * ax.size Int+0) = o+k from by show o+(k * 1+0) = _;omega] at this);clear hc;have ki:GZ (xs.drop k) s = GZ (xs[k] :: xs.drop (k+1)) s:=(by rw [List.getElem_cons_drop]);have ES:=hs;have ET:=hI;generalize hxk:xs[k] = y at *;cases ha:GX s y with
   | none =>
     have hf:GZ xs 0 = none:=(by rw [HS.out,ki,GZ,ha]);have HF:=I hf;clear hf ki;have HA:=I ha;clear ha;go_wp2_with (go_at_call 219;refine (oQ s y _ ES ET).mono ?_;rw [HA.out];rintro e w2 ⟨rfl,am⟩)
     go_returns
     exact ⟨by rw [HF.out];rfl,ah aM am⟩
   | some t =>
     have hf:GZ xs 0 = GZ (xs.drop (k+1)) t:=(by rw [HS.out,ki,GZ,ha]);have HF:=I hf;have Hm:=RU ha ES ET;clear hf ki;have HA:=I ha;clear ha;go_wp2_with (go_at_call 219;refine (oQ s y _ ES ET).mono ?_;rw [HA.out];rintro e w2 ⟨rfl,am⟩)
     exact ⟨⟨k+1,t,J,N',rfl,Hm,HF.out,ah aM am⟩,by simp [intOf];omega⟩
  ·exact Ma
def vU (xs:List nI):Option (Int × Int) :=
 match GZ (xs.map nI.aq) 0,GZ (xs.map nI.mem) 0 with
 | some a,some b=>some (a,b)
 | _,_=>none
def N5:Option (Int × Int)->Value
 | some (a,b)=>.tuple #[.int .i64 a,.int .i64 b,.bool true]
 | none=>.tuple #[.int .i64 0,.int .i64 0,.bool false]
def iv (xs:List Int):List Value:=xs.map λn=>.int .i64 n
theorem ae7 {α:Type} (f:α->Int) (xs:List α) (k:Nat) (h:k < xs.length):iv ((xs.take (k+1)).map f) = iv ((xs.take k).map f)++[.int .i64 (f xs[k])]:=by
 unfold iv;rw [List.take_succ_eq_append_getElem h,List.map_append,List.map_append];rfl
theorem Sl.apG {w:World} {xs:List nI} {A:Option Addr} {c:Nat} {F:List Nat} (h:Sl w xs A c F):∀p∈xs,bt p.aq/\bt p.mem/\bt p.av:=by
 intro p hp;obtain ⟨k,hk,rfl⟩:=List.getElem_of_mem hp;obtain ⟨b,o,ck,Fk,_,_,_,hr,_,_⟩:=h.get hk;obtain ⟨gu,gy,jw,oh,nT,wG,fA,fB,jY,rfl,rfl,hname,dO,vg,b8,BJ,mX,eG⟩:=dL hr;exact ⟨vg,b8,BJ⟩
theorem am9 (xs:List nI) (A:Option Addr) (n c:Nat) (F:List Nat) (w:World) (h:Sl w xs A c F) (hn:n = xs.length) (hl:(xs.length:Int)<=1048576) :
 Calls Tryz.prog 63 #[.slice A n c] w λe w'=>e = .returned (N5 (vU xs))/\Below w.heap.size w w':=by
 subst hn;have hI:=I h.apG;go_enter Tryz.func63,Tryz.ntmps63;go_wp2_with fail
 go_loopw [5,6,17] (λu v i wr=>∃(k:Nat),k<=xs.length/\i = .int .i64 k/\wr.ownsRow w.heap.size 3 1 u k (iv ((xs.take k).map nI.aq))/\wr.ownsRow w.heap.size 3 1 v k (iv ((xs.take k).map nI.mem))/\DK u v/\Below w.heap.size w wr) (λ_ _ i _=>xs.length - (intOf i).toNat)
 case atStart =>exact LW
 case round =>
  obtain ⟨k,hk,rfl,hu,hv,pM,aM⟩:=hrel;have UY:=hu.lt;by_cases ap:k < xs.length
  ·obtain ⟨b,o,ck,Fk,rfl,o9,hbs,hr,bi,hc⟩:=(Sl.ext (w':=wr) (A:=A) (c:=c) h aM).get ap;have rB:=h.lt b o9;obtain ⟨gu,gy,jw,oh,nT,wG,fA,fB,jY,ar,su,hname,dO,vg,b8,BJ,mX,eG⟩:=dL hr;subst ar;obtain ⟨q0,q1,q2,q3,q4,q5,q6⟩:=e'7 7 hc;clear hc
   go_wp2_with (first
    | (at_builtin
       refine uf RM J' _ _ J' _ _ _ _ _ (hu.alloc _) J' [.int .i64 xs[k].aq] po J' fm J J Rs ?_;intro u2 w2 dB fT ca RY;have bI:some wr.heap.size≠u5.ownBlock:=(by intro e;have:=hu.lt _ e.symm;omega);have p3:w2.cell? ⟨wr.heap.size,3,none⟩ = some (.int .i64 xs[k].mem):=fT.cell awG bI;have am:Below w.heap.size w w2:=lS (hu.alloc _) fT (ak aM _) Rs;have eO:=(hv.alloc _).kept fT pM.symm
       have uQ:=pM.grow (N:=_) hv (by simp;omega) RY)
    | (at_builtin
       refine uf RM J' _ _ J' _ _ _ _ _ eO J' [.int .i64 xs[k].mem] po J' fm J J (am.size) ?_;intro v2 w3 mK rN eB zf;have cP:=dB.kept rN uQ;have My:DK v2 u2:=uQ.symm.grow (N:=_) dB J zf
       have az:=lS eO rN am am.size))
   exact Mx
  ·have bz:k = xs.length:=J;subst bz;rw [List.take_length] at hu hv;obtain ⟨Au,cu,Gu,rfl,hsu⟩:=Sl.oJ (xs:=xs.map nI.aq) (by rw [List.length_map];exact hu) (Fv wr _ (by intro y hy;obtain ⟨p,hp,rfl⟩:=List.mem_map.1 hy;exact (hI.out p hp).1));obtain ⟨Av,cv,Gv,rfl,sA⟩:=Sl.oJ (xs:=xs.map nI.mem) (by rw [List.length_map];exact hv) (Fv wr _ (by intro y hy;obtain ⟨p,hp,rfl⟩:=List.mem_map.1 hy;exact (hI.out p hp).2.1));clear hu hv pM;rcases iB:GZ (xs.map nI.aq) 0 with _ | a <;> rcases eT:GZ (xs.map nI.mem) 0 with _ | b
   all_goals
    have br:vU xs = _:=(by unfold vU;rw [iB,eT]);have HF:=I br;have R1:=I iB;have R2:=I eT;clear iB eT br;go_wp2_with fail
    refine (acC (xs.map nI.aq) Au _ cu Gu _ hsu S' NM).mono ?_;rw [R1.out];rintro e w2 ⟨rfl,am⟩;go_wp2_with fail
    refine (acC (xs.map nI.mem) Av _ cv Gv _ (sA.ext am) S' NM).mono ?_;rw [R2.out];rintro e w3 ⟨rfl,az⟩;go_wp2;go_returns
    exact ⟨by rw [HF.out];rfl,ah (ah aM am) az⟩
theorem ad8 (xs:List nI) (A:Option Addr) (n c:Nat) (F:List Nat) (w:World) (h:Sl w xs A c F) (hn:n = xs.length) (hl:(xs.length:Int)<=1048576) :
 Calls Tryz.prog 141 #[.slice A n c] w λe w'=>e = .returned (N5 (vU xs))/\Below w.heap.size w w':=by
 subst hn;have hI:=I h.apG;go_enter Tryz.func141,Tryz.ntmps141;go_wp2_with fail
 go_loopw [5,6,7] (λu v i wr=>∃(k:Nat),k<=xs.length/\i = .int .i64 k/\wr.ownsRow w.heap.size 3 1 u k (iv ((xs.take k).map nI.aq))/\wr.ownsRow w.heap.size 3 1 v k (iv ((xs.take k).map nI.mem))/\DK u v/\Below w.heap.size w wr) (λ_ _ i _=>xs.length - (intOf i).toNat)
 case atStart =>exact LW
 case round =>
  obtain ⟨k,hk,rfl,hu,hv,pM,aM⟩:=hrel;have UY:=hu.lt;by_cases ap:k < xs.length
  ·obtain ⟨b,o,ck,Fk,rfl,o9,hbs,hr,bi,hc⟩:=(Sl.ext (w':=wr) (A:=A) (c:=c) h aM).get ap;have rB:=h.lt b o9;obtain ⟨gu,gy,jw,oh,nT,wG,fA,fB,jY,ar,su,hname,dO,vg,b8,BJ,mX,eG⟩:=dL hr;subst ar;obtain ⟨q0,q1,q2,q3,q4,q5,q6⟩:=e'7 7 hc;clear hc
   go_wp2_with (first
    | (at_builtin
       refine uf RM J' _ _ J' _ _ _ _ _ hu J' [.int .i64 xs[k].aq] po J' fm J J (aM.size) ?_;intro u2 w2 dB fT ca RY;have bI:some b≠u5.ownBlock:=(by intro e;have:=hu.lt _ e.symm;omega);replace q3:=fT.cell q3 bI;have am:Below w.heap.size w w2:=lS hu fT aM aM.size;have eO:=hv.kept fT pM.symm
       have uQ:=pM.grow (N:=_) hv J RY)
    | (at_builtin
       refine uf RM J' _ _ J' _ _ _ _ _ eO J' [.int .i64 xs[k].mem] po J' fm J J (am.size) ?_;intro v2 w3 mK rN eB zf;have cP:=dB.kept rN uQ;have My:DK v2 u2:=uQ.symm.grow (N:=_) dB J zf
       have az:=lS eO rN am am.size))
   exact Mx
  ·have bz:k = xs.length:=J;subst bz;rw [List.take_length] at hu hv;obtain ⟨Au,cu,Gu,rfl,hsu⟩:=Sl.oJ (xs:=xs.map nI.aq) (by rw [List.length_map];exact hu) (Fv wr _ (by intro y hy;obtain ⟨p,hp,rfl⟩:=List.mem_map.1 hy;exact (hI.out p hp).1));obtain ⟨Av,cv,Gv,rfl,sA⟩:=Sl.oJ (xs:=xs.map nI.mem) (by rw [List.length_map];exact hv) (Fv wr _ (by intro y hy;obtain ⟨p,hp,rfl⟩:=List.mem_map.1 hy;exact (hI.out p hp).2.1));clear hu hv pM;rcases iB:GZ (xs.map nI.aq) 0 with _ | a <;> rcases eT:GZ (xs.map nI.mem) 0 with _ | b
   all_goals
    have br:vU xs = _:=(by unfold vU;rw [iB,eT]);have HF:=I br;have R1:=I iB;have R2:=I eT;clear iB eT br;go_wp2_with fail
    refine (acD (xs.map nI.aq) Au _ cu Gu _ hsu S' NM).mono ?_;rw [R1.out];rintro e w2 ⟨rfl,am⟩;go_wp2_with fail
    refine (acD (xs.map nI.mem) Av _ cv Gv _ (sA.ext am) S' NM).mono ?_;rw [R2.out];rintro e w3 ⟨rfl,az⟩;go_wp2;go_returns
    exact ⟨by rw [HF.out];rfl,ah (ah aM am) az⟩
def mr (nm:ByteArray) (p:ag):Bool:=!(nm.toList == [])&&(p.on.toList == nm.toList)
def F7 (nm:ByteArray) (xs:List ag):List nI:=(xs.filter (mr nm)).map ag.aS
theorem R0 {nm:ByteArray} {xs:List ag} {k:Nat} (h:k < xs.length) (hp:mr nm xs[k] = true):F7 nm (xs.take (k+1)) = F7 nm (xs.take k)++[xs[k].aS]:=by
 unfold F7;rw [List.take_succ_eq_append_getElem h,List.filter_append,List.map_append];simp [hp]
theorem YC {nm:ByteArray} {xs:List ag} {k:Nat} (h:k < xs.length) (hp:mr nm xs[k] = false):F7 nm (xs.take (k+1)) = F7 nm (xs.take k):=by
 unfold F7;rw [List.take_succ_eq_append_getElem h,List.filter_append,List.map_append];simp [hp]
theorem NK (nm:ByteArray) (xs:List ag):(F7 nm xs).length<=xs.length:=by unfold F7;rw [List.length_map];exact List.length_filter_le _ _
theorem acI (nm:ByteArray) (xs:List ag) (k:Nat):(F7 nm (xs.take k)).length<=k:=Nat.le_trans (NK _ _) Ak
theorem ajl (nm:ByteArray) (xs:List ag) (h:nm.toList = []):F7 nm xs = []:=by
 unfold F7 mr;simp [h]
def KF (nm:ByteArray) (xs:List ag):Value :=
 match vU (F7 nm xs) with
 | some (a,b)=>.tuple #[.int .i64 a,.int .i64 b,.int .i64 (F7 nm xs).length,.bool true]
 | none=>.tuple #[.int .i64 0,.int .i64 0,.int .i64 0,.bool false]
theorem asM:(Tryz.prog.info? 35).map (λi=>(i.zero,i.size,i.bytes)) = some (some (.agg #[.string ⟨#[]⟩,.slice none 0 0,.int .i64 0,.int .i64 0,.int .i64 0,.slice none 0 0,.slice none 0 0]),7,112):=by kernel_rfl
theorem asN:DL Tryz.prog 103 35 (.agg #[.string ⟨#[]⟩,.slice none 0 0,.int .i64 0,.int .i64 0,.int .i64 0,.slice none 0 0,.slice none 0 0]) 7 112:=⟨Tryz.underlying103,asM,rfl,J⟩
theorem iQ (x:aU) (cs:List Value) (F:List Nat) (nm:ByteArray) (w:World) (h:rd w x cs F) (hl:(x.M.length:Int)<=1048576) :
 Calls Tryz.prog 33 #[.agg cs.toArray,.string nm] w λe w'=>e = .returned (KF nm x.M)/\Below w.heap.size w w':=by
 obtain ⟨bG,bD,fQ,dn,bW,jg,ar,qp,bQ,dM,hnext,aV,aP,aW⟩:=aO h;subst ar;clear qp;go_enter Tryz.func33,Tryz.ntmps33;go_wp2_with fail
 go_loopw [8,18] (λv i wr=>∃(k:Nat) (ds:List Value) (G:List Nat),k<=x.M.length/\i = .int .i64 k/\wr.ownsRow (w.heap.size+1) 35 7 v (F7 nm (x.M.take k)).length ds/\jo w (F7 nm (x.M.take k)) ds G/\wr.cell? ⟨w.heap.size,1,none⟩ = some (.slice dn x.M.length bW)/\Below w.heap.size w wr) (λ_ i _=>x.M.length - (intOf i).toNat)
 case atStart =>exact Ly
 case round =>
  obtain ⟨k,ds,G,hk,rfl,aw,dC,hqc,aM⟩:=hrel;have N6:w.heap.size < wr.heap.size:=World.block_lt_of_cell? wr _ hqc;by_cases ap:k < x.M.length
  ·have Iv:=acI nm x.M k;have R3:some w.heap.size≠u8.ownBlock:=(by intro e;have:=aw.lt _ e.symm;omega);obtain ⟨b,o,ck,Fk,rfl,o9,hbs,hr,bi,hc⟩:=Sl.get (α:=ag) (A:=dn) (c:=bW) dM ap;obtain ⟨c1,c2,F1,F2,rfl,rfl,QS,_,_,_,_,rfl,rfl,⟨rfl,rfl,eC⟩,⟨rfl,rfl,hseq⟩⟩:=hr;have sB:=QS;obtain ⟨gV,gW,lF,iR,iT,mV,dD,dF,iH,ar,su,nY,iE,rF,rG,oZ,je,dN⟩:=dL QS;subst ar;clear su QS iE je dN;obtain ⟨q0,q1,q2,q3,q4,q5,q6,q7,q8⟩:=uu 9 hc;clear hc;replace q0:=r' aM q0 hbs;replace q1:=r' aM q1 hbs;replace q2:=r' aM q2 hbs;replace q3:=r' aM q3 hbs;replace q4:=r' aM q4 hbs;replace q5:=r' aM q5 hbs;replace q6:=r' aM q6 hbs;replace q7:=r' aM q7 hbs;replace q8:=r' aM q8 hbs;cases cS:(nm.toList == []) <;> cases cO:(x.M[k].on.toList == nm.toList)
   all_goals
    have hp:mr nm x.M[k] = _:=avV;simp only [Bool.not_true,Bool.not_false,Bool.true_and,Bool.false_and] at hp;have HP:=I hp;clear hp
    go_wp2_with (
     at_builtin
     go_must (refine lC asN J' _ _ J' _ _ _ _ _ (aw.alloc _) J' [.string x.M[k].aS.name,.slice gV x.M[k].aS.labels.length gW,.int .i64 x.M[k].aS.aq,.int .i64 x.M[k].aS.mem,.int .i64 x.M[k].aS.av,.slice iR x.M[k].aS.af.length iT,.slice dD x.M[k].aS.ae.length dF] po J' fm J J avJ ?_)
     intro v2 w2 eP fT ca;go_must (have am:Below w.heap.size w w2:=lS (B:=w.heap.size) ((vP aw (Nat.le_succ _)).alloc _) fT (ak aM _) Rs)
     go_must (have R4:=fT.cell ((World.cell?_of_block (heap_alloc_old wr _ J)).trans hqc) R3))
    first
     | exact ⟨⟨k+1,_,_,J,N',(by rw [YC ap HP.out];exact aw),RB,hqc,aM⟩,by simp [intOf];omega⟩
     | exact ⟨⟨k+1,_,_,J,N',(by rw [R0 ap HP.out,List.length_append];exact eP),(by rw [R0 ap HP.out];exact dC.append (.single sB)),R4,am⟩,by simp [intOf];omega⟩
     | exact ⟨⟨k+1,_,_,J,N',(by rw [YC ap HP.out];exact aw.alloc _),RB,(World.cell?_of_block (heap_alloc_old wr _ J)).trans hqc,ak aM _⟩,by simp [intOf];omega⟩
  ·have bz:k = x.M.length:=J;subst bz;rw [List.take_length] at aw dC;obtain ⟨Al,cl,Gl,rfl,nu⟩:=Sl.oJ aw (dC.frame (λb hb=>aM.block b (dC.lt b hb)) aM.size);have Iv:=NK nm x.M;clear aw dC;rcases iB:vU (F7 nm x.M) with _ | ⟨a,b⟩
   all_goals
    have br:KF nm x.M = _:=T9;have HF:=I br;have R1:=I iB;clear iB br;go_wp2_with fail
    refine (am9 (F7 nm x.M) Al _ cl Gl _ nu rfl J).mono ?_;rw [R1.out];simp only [N5];rintro e w2 ⟨rfl,am⟩;go_wp2;go_returns
    exact ⟨by rw [HF.out],ah aM am⟩
theorem jm (x:aU) (cs:List Value) (F:List Nat) (nm:ByteArray) (w:World) (h:rd w x cs F) (hl:(x.M.length:Int)<=1048576) :
 Calls Tryz.prog 89 #[.agg cs.toArray,.string nm] w λe w'=>e = .returned (KF nm x.M)/\Below w.heap.size w w':=by
 obtain ⟨bG,bD,fQ,dn,bW,jg,ar,qp,bQ,dM,hnext,aV,aP,aW⟩:=aO h;subst ar;clear qp;go_enter Tryz.func89,Tryz.ntmps89;go_wp2_with fail
 go_loopw [8,9] (λv i wr=>∃(k:Nat) (ds:List Value) (G:List Nat),k<=x.M.length/\i = .int .i64 k/\wr.ownsRow (w.heap.size+1) 35 7 v (F7 nm (x.M.take k)).length ds/\jo w (F7 nm (x.M.take k)) ds G/\wr.cell? ⟨w.heap.size,1,none⟩ = some (.slice dn x.M.length bW)/\Below w.heap.size w wr) (λ_ i _=>x.M.length - (intOf i).toNat)
 case atStart =>exact Ly
 case round =>
  obtain ⟨k,ds,G,hk,rfl,aw,dC,hqc,aM⟩:=hrel;have N6:w.heap.size < wr.heap.size:=World.block_lt_of_cell? wr _ hqc;cases cS:(nm.toList == []) with
  | true =>
    have he:nm.toList = []:=(by simpa using cS);rw [ajl nm _ he,<- ajl nm x.M he] at aw dC;by_cases ap:k < x.M.length
    all_goals
     obtain ⟨Al,cl,Gl,rfl,nu⟩:=Sl.oJ aw (dC.frame (λb hb=>aM.block b (dC.lt b hb)) aM.size);have Iv:=NK nm x.M;clear aw dC;rcases iB:vU (F7 nm x.M) with _ | ⟨a,b⟩
     all_goals
      have br:KF nm x.M = _:=T9;have HF:=I br;have R1:=I iB;clear iB br;go_wp2_with fail
      refine (ad8 (F7 nm x.M) Al _ cl Gl _ nu rfl J).mono ?_;rw [R1.out];simp only [N5];rintro e w2 ⟨rfl,am⟩;go_wp2;go_returns
      exact ⟨by rw [HF.out],ah aM am⟩
  | false =>
    by_cases ap:k < x.M.length
    ·have Iv:=acI nm x.M k;have R3:some w.heap.size≠u8.ownBlock:=(by intro e;have:=aw.lt _ e.symm;omega);obtain ⟨b,o,ck,Fk,rfl,o9,hbs,hr,bi,hc⟩:=Sl.get (α:=ag) (A:=dn) (c:=bW) dM ap;obtain ⟨c1,c2,F1,F2,rfl,rfl,QS,_,_,_,_,rfl,rfl,⟨rfl,rfl,eC⟩,⟨rfl,rfl,hseq⟩⟩:=hr;have sB:=QS;obtain ⟨gV,gW,lF,iR,iT,mV,dD,dF,iH,ar,su,nY,iE,rF,rG,oZ,je,dN⟩:=dL QS;subst ar;clear su QS iE je dN;obtain ⟨q0,q1,q2,q3,q4,q5,q6,q7,q8⟩:=uu 9 hc;clear hc;replace q0:=r' aM q0 hbs;replace q1:=r' aM q1 hbs;replace q2:=r' aM q2 hbs;replace q3:=r' aM q3 hbs;replace q4:=r' aM q4 hbs;replace q5:=r' aM q5 hbs;replace q6:=r' aM q6 hbs;replace q7:=r' aM q7 hbs;replace q8:=r' aM q8 hbs;cases cO:(x.M[k].on.toList == nm.toList)
     all_goals
      have hp:mr nm x.M[k] = _:=avV;simp only [Bool.not_true,Bool.not_false,Bool.true_and,Bool.false_and] at hp;have HP:=I hp;clear hp
      go_wp2_with (
       at_builtin
       go_must (refine lC asN J' _ _ J' _ _ _ _ _ aw J' [.string x.M[k].aS.name,.slice gV x.M[k].aS.labels.length gW,.int .i64 x.M[k].aS.aq,.int .i64 x.M[k].aS.mem,.int .i64 x.M[k].aS.av,.slice iR x.M[k].aS.af.length iT,.slice dD x.M[k].aS.ae.length dF] po J' fm J J avJ ?_)
       intro v2 w2 eP fT ca;go_must (have am:Below w.heap.size w w2:=lS (vP aw (Nat.le_succ _)) fT aM aM.size)
       go_must (have R4:=fT.cell hqc R3))
      first
       | exact ⟨⟨k+1,_,_,J,N',(by rw [YC ap HP.out];exact aw),RB,hqc,aM⟩,by simp [intOf];omega⟩
       | exact ⟨⟨k+1,_,_,J,N',(by rw [R0 ap HP.out,List.length_append];exact eP),(by rw [R0 ap HP.out];exact dC.append (.single sB)),R4,am⟩,by simp [intOf];omega⟩
       | exact ⟨⟨k+1,_,_,J,N',(by rw [YC ap HP.out];exact aw.alloc _),RB,(World.cell?_of_block (heap_alloc_old wr _ J)).trans hqc,ak aM _⟩,by simp [intOf];omega⟩
    ·have bz:k = x.M.length:=J;subst bz;rw [List.take_length] at aw dC;obtain ⟨Al,cl,Gl,rfl,nu⟩:=Sl.oJ aw (dC.frame (λb hb=>aM.block b (dC.lt b hb)) aM.size);have Iv:=NK nm x.M;clear aw dC;rcases iB:vU (F7 nm x.M) with _ | ⟨a,b⟩
     all_goals
      have br:KF nm x.M = _:=T9;have HF:=I br;have R1:=I iB;clear iB br;go_wp2_with fail
      refine (ad8 (F7 nm x.M) Al _ cl Gl _ nu rfl J).mono ?_;rw [R1.out];simp only [N5];rintro e w2 ⟨rfl,am⟩;go_wp2;go_returns
      exact ⟨by rw [HF.out],ah aM am⟩
structure nN (F:List Nat) (w w':World):Prop where
 os:w'.os = w.os
 tape:w'.tape = w.tape
 output:w'.output = w.output
 size:w.heap.size<=w'.heap.size
 block:∀k,k < w.heap.size->k∉F->w'.heap[k]? = w.heap[k]?
section
variable {F G:List Nat} {w w1 w2:World}
theorem nN.refl (F:List Nat) (w:World):nN F w w:=⟨rfl,rfl,rfl,Nat.le_refl _,λ_ _ _=>rfl⟩
theorem nN.trans (h:nN F w w1) (k:nN F w1 w2):nN F w w2 :=
 ⟨k.os.trans h.os,k.tape.trans h.tape,k.output.trans h.output,Nat.le_trans h.size k.size,λi hi hn=>(k.block i (Nat.lt_of_lt_of_le hi h.size) hn).trans (h.block i hi hn)⟩
theorem nN.mono (h:nN F w w1) (hs:∀b∈F,b∈G):nN G w w1:=⟨h.os,h.tape,h.output,h.size,λi hi hn=>h.block i hi λhb=>hn (hs i hb)⟩
theorem nN.lq (F:List Nat) (h:Below w.heap.size w w1):nN F w w1:=⟨h.os,h.tape,h.output,h.size,λi hi _=>h.block i hi⟩
theorem nN.drew (h:nN F w w1):nN F w w1.drew:=⟨h.os,h.tape,h.output,h.size,h.block⟩
theorem nN.setCell (h:nN F w w1) {p:Addr} (hp:p.block∈F) (u:Value):nN F w (w1.setCell p u) :=
 ⟨h.os,h.tape,h.output,by simpa [World.setCell] using h.size,λi hi hn=>(Below.heap_setCell _ _ _ _ (by rintro rfl;exact hn hp)).trans (h.block i hi hn)⟩
theorem nN.below {B:Nat} (h:nN F w w1) (hF:∀b∈F,B<=b) (hB:B<=w.heap.size):Below B w w1 :=
 ⟨h.os,h.tape,h.output,h.size,λi hi=>h.block i J λhb=>by have:=hF i hb;omega⟩
theorem nN.rd {α:Type} [ax α] (h:nN F w w1) {x:α} {cs:List Value} (hr:rd w x cs G) (hd:∀b∈G,b∉F):rd w1 x cs G :=
 ax.frame hr (λb hb=>h.block b (ax.lt hr b hb) (hd b hb)) h.size
theorem nN.own {α:Type} [ax α] (h:nN F w w1) {x:α} {cs:List Value} {B:Nat} (hr:ai w B x cs G) (hd:∀b∈G,b∉F):ai w1 B x cs G :=
 hr.keep (λb hb=>h.block b (hr.lt b hb) (hd b hb)) h.size
end
def rI (w:World) (b o:Nat) (ds:List Value):Prop:=∀j u,ds[j]? = some u->w.cell? ⟨b,o+j,none⟩ = some u
def Plain (w:World) (b:Nat):Prop:=∃ds t,w.heap[b]? = some (.cells ds t (0,0))
theorem Plain.lt {w:World} {b:Nat} (h:Plain w b):b < w.heap.size:=by
 obtain ⟨ds,t,h⟩:=h;rcases Nat.lt_or_ge b w.heap.size with ap | rv
 ·exact ap
 ·rw [Array.getElem?_eq_none rv] at h;cases h
theorem Plain.frozen {w:World} {b:Nat} (h:Plain w b) (i:Nat):w.frozen? ⟨b,i,none⟩ = false:=by
 obtain ⟨ds,t,h⟩:=h;simp [World.frozen?,h]
theorem Plain.setCell {w:World} {b:Nat} (h:Plain w b) (b' q:Nat) (u:Value):Plain (w.setCell ⟨b',q,none⟩ u) b:=by
 obtain ⟨ds,t,h⟩:=h;by_cases hp:b' = b
 ·subst hp;exact ⟨ds.setIfInBounds q u,t,by simp [World.setCell,Array.getElem?_modify,h]⟩
 ·exact ⟨ds,t,(Below.heap_setCell _ _ _ _ bx).trans h⟩
theorem abV {w:World} {b i:Nat} (h:Plain w b) {v:Value} (hc:w.cell? ⟨b,i,none⟩ = some v) (u:Value):(w.setCell ⟨b,i,none⟩ u).cell? ⟨b,i,none⟩ = some u:=by
 obtain ⟨ds,t,h⟩:=h;rw [cell_of_row w b i ds t (0,0) h] at hc;have hi:=(Array.getElem?_eq_some_iff.1 hc).1;rw [cell_of_row _ b i (ds.setIfInBounds i u) t (0,0) Ug];simp [hi]
theorem Qv {w:World} {b i j:Nat} (h:Plain w b) (mW:i≠j) (u:Value):(w.setCell ⟨b,i,none⟩ u).cell? ⟨b,j,none⟩ = w.cell? ⟨b,j,none⟩:=by
 obtain ⟨ds,t,h⟩:=h;rw [cell_of_row w b j ds t (0,0) h,cell_of_row _ b j (ds.setIfInBounds i u) t (0,0) Ug];rw [Array.getElem?_setIfInBounds_ne mW]
structure sz (w0 w:World) (b o:Nat) (ck:List Value) (Fk:List Nat):Prop where
 ce:nN (b :: Fk) w0 w
 cells:rI w b o ck
 rest:∀q,(q < o∨o+ck.length<=q)->w.cell? ⟨b,q,none⟩ = w0.cell? ⟨b,q,none⟩
 plain:Plain w b
section
variable {w0 w w1:World} {b o:Nat} {ck:List Value} {Fk G:List Nat}
theorem sz.set (h:sz w0 w b o ck Fk) {j q:Nat} (hj:j < ck.length) (hq:q = o+j) (u:Value):sz w0 (w.setCell ⟨b,q,none⟩ u) b o (ck.set j u) Fk:=by
 subst hq;refine ⟨h.ce.setCell (List.mem_cons_self ..) u,λi v hi=>?_,λq hq=>?_,h.plain.setCell _ _ _⟩
 ·by_cases mW:j = i
  ·subst mW;rw [List.getElem?_set_self hj] at hi;cases hi
   exact abV h.plain (h.cells j _ (List.getElem?_eq_getElem hj)) u
  ·rw [List.getElem?_set_ne mW] at hi;rw [Qv h.plain J];exact h.cells i v hi
 ·rw [List.length_set] at hq;rw [Qv h.plain J];exact h.rest q hq
theorem sz.at_ (h:sz w0 w b o ck Fk) {j q:Nat} (hq:q = o+j) {u:Value} (hj:ck[j]? = some u):w.cell? ⟨b,q,none⟩ = some u:=by
 subst hq;exact h.cells j u hj
theorem sz.step (h:sz w0 w b o ck Fk) (hu:nN G w w1) (hs:∀x∈G,x∈Fk) (hb:b∉G):sz w0 w1 b o ck Fk:=by
 have e:=hu.block b h.plain.lt hb;refine ⟨h.ce.trans (hu.mono λx hx=>List.mem_cons_of_mem _ (hs x hx)),λj u hj=>?_,λq hq=>?_,?_⟩
 ·rw [World.cell?_of_block e];exact h.cells j u hj
 ·rw [World.cell?_of_block e];exact h.rest q hq
 ·obtain ⟨ds,t,hp⟩:=h.plain;exact ⟨ds,t,e.trans hp⟩
theorem sz.ext (h:sz w0 w b o ck Fk) (hb:Below w.heap.size w w1):sz w0 w1 b o ck Fk:=h.step (.lq [] hb) (λ_ hx=>by cases hx) S'
end
theorem jo.split {α:Type} [ax α] {w:World} {xs:List α} {ds:List Value} {G:List Nat} (h:jo w xs ds G) {k:Nat} (hk:k < xs.length) :
 ∃d1 ck d2 G1 Fk G2,ds = d1++(ck++d2)/\G = G1++(Fk++G2)/\jo w (xs.take k) d1 G1/\rd w xs[k] ck Fk/\jo w (xs.drop (k+1)) d2 G2/\d1.length = k * ax.size α:=by
 have e:xs = xs.take k++(xs[k] :: xs.drop (k+1)):=by rw [List.getElem_cons_drop,List.take_append_drop]
 rw [e] at h;obtain ⟨c1,c2,F1,F2,rfl,rfl,h1,ck,c3,Fk,F3,rfl,rfl,h2,h3⟩:=jo.gF h;refine ⟨c1,ck,c3,F1,Fk,F3,rfl,rfl,h1,h2,h3,?_⟩;rw [h1.len,List.length_take,Nat.min_eq_left J]
theorem ai.EP {α:Type} [ax α] {w:World} {B n c:Nat} {xs:List α} {A:Option Addr} {F:List Nat} (h:ai w B xs [.slice A n c] F) {k:Nat} (hk:k < xs.length) :
 ∃b o ck Fk,A = some ⟨b,o,none⟩/\b∈F/\(∀x∈Fk,x∈F)/\b∉Fk/\ai w B xs[k] ck Fk/\sz w w b (o+k * ax.size α) ck Fk /\
  ∀w' x' TY,ai w' B x' TY Fk->sz w w' b (o+k * ax.size α) TY Fk->ai w' B (xs.set k x') [.slice A n c] F:=by
 obtain ⟨⟨A',c',G,ds,e,cU,bM,hc,h0⟩,hnd,df,hplain⟩:=h;simp at e;obtain ⟨rfl,rfl,rfl⟩:=e;rcases h0 with h0 | ⟨b,o,rfl,rfl,hb,bv⟩
 ·rw [h0.1] at hk;cases hk
 obtain ⟨d1,ck,d2,G1,Fk,G2,rfl,rfl,r1,r2,r3,ke⟩:=hc.split hk;have Ea:=ax.len r2;simp only [List.nodup_cons,List.nodup_append,List.mem_append,not_or] at hnd;have atq:Plain w b:=hplain b (List.mem_cons_self ..);refine ⟨b,o,ck,Fk,rfl,List.mem_cons_self ..,λx hx=>List.mem_cons_of_mem _ (by simp [hx]),hnd.1.2.1,⟨r2,hnd.2.2.1.1,λx hx=>df x (by simp [hx]),λx hx=>hplain x (by simp [hx])⟩,⟨.refl _ _,λj u hj=>?_,λ_ _=>rfl,atq⟩,?_⟩
 ·have:=bv (k * ax.size α+j) u (by
   rw [List.getElem?_append_right J,List.getElem?_append_left (by have:=(List.getElem?_eq_some_iff.1 hj).1;omega)]
   rw [<- hj];congr 1;omega)
  rwa [Nat.add_assoc]
 ·intro w' x' TY hx hE;have gU:∀y∈G1++G2,w'.heap[y]? = w.heap[y]?:=λy hy=>by
   refine hE.ce.block y ?_ ?_
   ·rcases List.mem_append.1 hy with hy | hy
    ·exact r1.lt y hy
    ·exact r3.lt y hy
   ·intro hm;rcases List.mem_cons.1 hm with rfl | hm
    ·rcases List.mem_append.1 hy with hy | hy
     ·exact hnd.1.1 hy
     ·exact hnd.1.2.2 hy
    ·rcases List.mem_append.1 hy with hy | hy
     ·exact hnd.2.2.2 y hy y (Or.inl hm) rfl
     ·exact hnd.2.2.1.2.2 y hm y hy rfl
  have Bg:=ax.len hx.rd;refine ⟨⟨_,c,G1++(Fk++G2),d1++(TY++d2),S',by simpa using cU,bM,?_,.inr ⟨b,o,rfl,rfl,Nat.lt_of_lt_of_le hb hE.ce.size,?_⟩⟩,?_,?_,?_⟩
  ·have es:xs.set k x' = xs.take k++(x' :: xs.drop (k+1)):=List.set_eq_take_append_cons_drop.trans (if_pos hk);rw [es];exact (r1.frame (λy hy=>gU y (List.mem_append_left _ hy)) hE.ce.size).append ⟨TY,d2,Fk,G2,rfl,rfl,hx.rd,r3.frame (λy hy=>gU y (List.mem_append_right _ hy)) hE.ce.size⟩
  ·intro j u hj;by_cases RQ:j < d1.length
   ·rw [List.getElem?_append_left RQ] at hj;rw [hE.rest (o+j) J];exact bv j u (by rw [List.getElem?_append_left RQ];exact hj)
   ·rw [List.getElem?_append_right J] at hj;by_cases oM:j - d1.length < TY.length
    ·rw [List.getElem?_append_left oM] at hj;have:=hE.cells _ u hj;rw [<- this];congr 2;omega
    ·rw [List.getElem?_append_right J] at hj;rw [hE.rest (o+j) J];refine bv j u ?_;rw [List.getElem?_append_right J,List.getElem?_append_right J];rw [<- hj];congr 1;omega
  ·simp only [List.nodup_cons,List.nodup_append,List.mem_append,not_or];exact hnd
  ·exact df
  ·intro y hy;rcases List.mem_cons.1 hy with rfl | hy
   ·exact hE.plain
   ·rcases List.mem_append.1 hy with hy | hy
    ·rw [gU y (List.mem_append_left _ hy)];exact hplain y (by simp [hy])
    ·rcases List.mem_append.1 hy with hy | hy
     ·exact hx.plain y hy
     ·rw [gU y (List.mem_append_right _ hy)];exact hplain y (by simp [hy])
theorem ai.JA {α:Type} [ax α] {w:World} {B:Nat} {x:α} {cs:List Value} {F:List Nat} (h:ai w B x cs F) {p:Addr} (hp:p.block∉F) (u:Value):ai (w.setCell p u) B x cs F :=
 h.keep (λb hb=>Below.heap_setCell _ _ _ _ (by rintro rfl;exact hp hb)) fw
section
variable {α:Type} (mk:α->Int->α) (cnt:α->Nat)
variable {mk cnt} {xs:List α} {k:Int} {i:Nat}
end
end Go.Proofs.YtdegaofigemegaaGreat
