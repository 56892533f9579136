/- AddInt, SumInts, SumsOf, of the program and of the reference. No condition. -/
import Derived.Test.YtfdgeonannkmaaaGreatAppendAt
import Derived.Test.YtfdgeonannkmaaaGreatData
import Derived.Test.YtfdgeonannkmaaaGreatOrdP
namespace Go.Proofs.YtfdgeonannkmaaaGreat
open Go.ChangeShapes Go.WideShapes Go.ChangeAt Go.RowKit
set_option linter.unusedVariables false
set_option linter.unusedSimpArgs false
def GX (a b:Int):Option Int:=if a < 0∨b < 0∨9223372036854775807 - b < a then none else some (a+b)
theorem abW {a b t:Int} (h:GX a b = some t) (ha:I64 a) (hb:I64 b):I64 t:=by
 unfold GX at h
 split at h
 ·cases h
 ·cases h
  unfold I64 at *
  omega
def GZ:List Int→Int→Option Int
 | [],s=>some s
 | x :: xs,s=>match GX s x with | none=>none | some m=>GZ xs m
theorem J9 (a b:Int) (w:World) (ha:I64 a) (hb:I64 b):Calls Tryz.prog 240 #[.int .i64 a,.int .i64 b] w fun e w'=>e = .returned (.tuple #[.int .i64 ((GX a b).getD 0),.bool (GX a b).isSome])∧Below w.heap.size w w':=by
 obtain ⟨ha0,ha1⟩:=ha
 obtain ⟨hb0,hb1⟩:=hb
 by_cases h1:a < 0
 ·exact Zaci
 by_cases h2:b < 0
 ·exact Zaci
 by_cases h3:9223372036854775807 - b < a
 ·exact Zaci
 ·have e:GX a b = some (a+b):=by unfold GX;rw [if_neg (by omega)]
  rw [e]
  go_enter Tryz.func240,Tryz.ntmps240
  go_wp2
  go_returns
  exact ⟨rfl,aj _⟩
theorem oQ (a b:Int) (w:World) (ha:I64 a) (hb:I64 b):Calls Tryz.prog 206 #[.int .i64 a,.int .i64 b] w fun e w'=>e = .returned (.tuple #[.int .i64 ((GX a b).getD 0),.bool (GX a b).isSome])∧Below w.heap.size w w':=by
 obtain ⟨ha0,ha1⟩:=ha
 obtain ⟨hb0,hb1⟩:=hb
 by_cases h1:a < 0
 ·exact Zacj
 by_cases h2:b < 0
 ·exact Zacj
 by_cases h3:9223372036854775807 - b < a
 ·exact Zacj
 ·have e:GX a b = some (a+b):=by unfold GX;rw [if_neg (by omega)]
  rw [e]
  go_enter Tryz.func206,Tryz.ntmps206
  go_wp2
  go_returns
  exact ⟨rfl,aj _⟩
set_option maxHeartbeats 400000 in
theorem acC (xs:List Int) (A:Option Addr) (n c:Nat) (F:List Nat) (w:World) (h:Sl w xs A c F) (hn:n = xs.length) (hl:(xs.length:Int)≤1048576) :
 Calls Tryz.prog 201 #[.slice A n c] w fun e w'=>e = .returned (.tuple #[.int .i64 ((GZ xs 0).getD 0),.bool (GZ xs 0).isSome])∧Below w.heap.size w w':=by
 subst hn
 go_enter Tryz.func201,Tryz.ntmps201
 go_wp2_with fail
 go_loopw [4,11] (fun x i wr=>∃(k:Nat) (s:Int),k≤xs.length∧i = .int .i64 k∧x = .int .i64 s∧I64 s∧Hid (GZ xs 0 = GZ (xs.drop k) s)∧Below w.heap.size w wr) (fun _ i _=>xs.length - (intOf i).toNat)
 case atStart=>exact ⟨0,0,Nat.zero_le _,rfl,rfl,⟨by decide,by decide⟩,rfl,aj _⟩
 case round =>
  obtain ⟨k,s,hk,rfl,rfl,hs,HS,hbl⟩:=hrel
  by_cases hlt:k < xs.length
  ·obtain ⟨b,o,ck,Fk,rfl,o9,hbs,hr,hsub,hc⟩:=(Sl.ext (w':=wr) (A:=A) (c:=c) h hbl).get hlt
   obtain ⟨hck,su,hI⟩:=hr
   subst hck su
   have q0:wr.cell? ⟨b,o+k,none⟩ = some (.int .i64 xs[k]):=by have:=hc 0 _ rfl;rwa [show o+(k * Dat.size Int+0) = o+k from by show o+(k * 1+0) = _;omega] at this
   clear hc
   have hdr:GZ (xs.drop k) s = GZ (xs[k] :: xs.drop (k+1)) s:=by rw [List.getElem_cons_drop]
   have hsI:=hs
   have hxI:=hI
   generalize hxk:xs[k] = y at *
   cases ha:GX s y with
   | none =>
     have hf:GZ xs 0 = none:=by rw [HS.out,hdr,GZ,ha]
     have HF:=Lib.hid hf
     clear hf hdr
     have HA:=Lib.hid ha
     clear ha
     go_wp2_with (go_at_call 240;refine (J9 s y _ hsI hxI).mono ?_;rw [HA.out];rintro e w2 ⟨rfl,hb2⟩)
     go_returns
     exact ⟨by rw [HF.out];rfl,ah hbl hb2⟩
   | some t =>
     have hf:GZ xs 0 = GZ (xs.drop (k+1)) t:=by rw [HS.out,hdr,GZ,ha]
     have HF:=Lib.hid hf
     have htI:=abW ha hsI hxI
     clear hf hdr
     have HA:=Lib.hid ha
     clear ha
     go_wp2_with (go_at_call 240;refine (J9 s y _ hsI hxI).mono ?_;rw [HA.out];rintro e w2 ⟨rfl,hb2⟩)
     exact ⟨⟨k+1,t,by omega,by go_num,rfl,htI,HF.out,ah hbl hb2⟩,by simp [intOf];omega⟩
  ·exact Zacz
set_option maxHeartbeats 400000 in
theorem acD (xs:List Int) (A:Option Addr) (n c:Nat) (F:List Nat) (w:World) (h:Sl w xs A c F) (hn:n = xs.length) (hl:(xs.length:Int)≤1048576) :
 Calls Tryz.prog 182 #[.slice A n c] w fun e w'=>e = .returned (.tuple #[.int .i64 ((GZ xs 0).getD 0),.bool (GZ xs 0).isSome])∧Below w.heap.size w w':=by
 subst hn
 go_enter Tryz.func182,Tryz.ntmps182
 go_wp2_with fail
 go_loopw [4,5] (fun x i wr=>∃(k:Nat) (s:Int),k≤xs.length∧i = .int .i64 k∧x = .int .i64 s∧I64 s∧Hid (GZ xs 0 = GZ (xs.drop k) s)∧Below w.heap.size w wr) (fun _ i _=>xs.length - (intOf i).toNat)
 case atStart=>exact ⟨0,0,Nat.zero_le _,rfl,rfl,⟨by decide,by decide⟩,rfl,aj _⟩
 case round =>
  obtain ⟨k,s,hk,rfl,rfl,hs,HS,hbl⟩:=hrel
  by_cases hlt:k < xs.length
  ·obtain ⟨b,o,ck,Fk,rfl,o9,hbs,hr,hsub,hc⟩:=(Sl.ext (w':=wr) (A:=A) (c:=c) h hbl).get hlt
   obtain ⟨hck,su,hI⟩:=hr
   subst hck su
   have q0:wr.cell? ⟨b,o+k,none⟩ = some (.int .i64 xs[k]):=by have:=hc 0 _ rfl;rwa [show o+(k * Dat.size Int+0) = o+k from by show o+(k * 1+0) = _;omega] at this
   clear hc
   have hdr:GZ (xs.drop k) s = GZ (xs[k] :: xs.drop (k+1)) s:=by rw [List.getElem_cons_drop]
   have hsI:=hs
   have hxI:=hI
   generalize hxk:xs[k] = y at *
   cases ha:GX s y with
   | none =>
     have hf:GZ xs 0 = none:=by rw [HS.out,hdr,GZ,ha]
     have HF:=Lib.hid hf
     clear hf hdr
     have HA:=Lib.hid ha
     clear ha
     go_wp2_with (go_at_call 206;refine (oQ s y _ hsI hxI).mono ?_;rw [HA.out];rintro e w2 ⟨rfl,hb2⟩)
     go_returns
     exact ⟨by rw [HF.out];rfl,ah hbl hb2⟩
   | some t =>
     have hf:GZ xs 0 = GZ (xs.drop (k+1)) t:=by rw [HS.out,hdr,GZ,ha]
     have HF:=Lib.hid hf
     have htI:=abW ha hsI hxI
     clear hf hdr
     have HA:=Lib.hid ha
     clear ha
     go_wp2_with (go_at_call 206;refine (oQ s y _ hsI hxI).mono ?_;rw [HA.out];rintro e w2 ⟨rfl,hb2⟩)
     exact ⟨⟨k+1,t,by omega,by go_num,rfl,htI,HF.out,ah hbl hb2⟩,by simp [intOf];omega⟩
  ·exact Zacz
end Go.Proofs.YtfdgeonannkmaaaGreat
namespace Go.Proofs.YtfdgeonannkmaaaGreat
open Go.ChangeShapes Go.WideShapes Go.ChangeAt Go.RowKit
set_option linter.unusedVariables false
set_option linter.unusedSimpArgs false
def vU (xs:List nI):Option (Int × Int) :=
 match GZ (xs.map nI.cpu) 0,GZ (xs.map nI.mem) 0 with
 | some a,some b=>some (a,b)
 | _,_=>none
def am8:Option (Int × Int)→Value
 | some (a,b)=>.tuple #[.int .i64 a,.int .i64 b,.bool true]
 | none=>.tuple #[.int .i64 0,.int .i64 0,.bool false]
def iv (xs:List Int):List Value:=xs.map fun n=>.int .i64 n
theorem ae7 {α:Type} (f:α→Int) (xs:List α) (k:Nat) (h:k < xs.length):iv ((xs.take (k+1)).map f) = iv ((xs.take k).map f)++[.int .i64 (f xs[k])]:=by
 unfold iv;rw [List.take_succ_eq_append_getElem h,List.map_append,List.map_append];rfl
theorem Sl.apG {w:World} {xs:List nI} {A:Option Addr} {c:Nat} {F:List Nat} (h:Sl w xs A c F):∀p∈xs,I64 p.cpu∧I64 p.mem∧I64 p.rank:=by
 intro p hp
 obtain ⟨k,hk,rfl⟩:=List.getElem_of_mem hp
 obtain ⟨b,o,ck,Fk,_,_,_,hr,_,_⟩:=h.get hk
 obtain ⟨gu,gy,jw,oh,nT,wG,fA,fB,jY,rfl,rfl,hname,dO,vg,hmem,BJ,mX,eG⟩:=dL hr
 exact ⟨vg,hmem,BJ⟩
set_option maxRecDepth 100000 in
set_option maxHeartbeats 1000000 in
theorem am9 (xs:List nI) (A:Option Addr) (n c:Nat) (F:List Nat) (w:World) (h:Sl w xs A c F) (hn:n = xs.length) (hl:(xs.length:Int)≤1048576) :
 Calls Tryz.prog 157 #[.slice A n c] w fun e w'=>e = .returned (am8 (vU xs))∧Below w.heap.size w w':=by
 subst hn
 have hI:=Lib.hid h.apG
 go_enter Tryz.func157,Tryz.ntmps157
 go_wp2_with fail
 go_loopw [5,6,17] (fun u v i wr=>∃(k:Nat),k≤xs.length∧i = .int .i64 k∧wr.ownsRow w.heap.size 3 1 u k (iv ((xs.take k).map nI.cpu))∧wr.ownsRow w.heap.size 3 1 v k (iv ((xs.take k).map nI.mem))∧DK u v∧Below w.heap.size w wr) (fun _ _ i _=>xs.length - (intOf i).toNat)
 case atStart =>
  exact Zach
 case round =>
  obtain ⟨k,hk,rfl,hu,hv,hap,hbl⟩:=hrel
  have hlts:=hu.lt
  by_cases hlt:k < xs.length
  ·obtain ⟨b,o,ck,Fk,rfl,o9,hbs,hr,hsub,hc⟩:=(Sl.ext (w':=wr) (A:=A) (c:=c) h hbl).get hlt
   have hbw:=h.lt b o9
   obtain ⟨gu,gy,jw,oh,nT,wG,fA,fB,jY,hck,su,hname,dO,vg,hmem,BJ,mX,eG⟩:=dL hr
   subst hck
   have q0:wr.cell? ⟨b,o+k * 7,none⟩ = some (.string xs[k].name):=by exact hc 0 _ rfl
   have q1:wr.cell? ⟨b,o+k * 7+1,none⟩ = some (.slice gu xs[k].labels.length gy):=by rw [Nat.add_assoc];exact hc 1 _ rfl
   have q2:wr.cell? ⟨b,o+k * 7+2,none⟩ = some (.int .i64 xs[k].cpu):=by rw [Nat.add_assoc];exact hc 2 _ rfl
   have q3:wr.cell? ⟨b,o+k * 7+3,none⟩ = some (.int .i64 xs[k].mem):=by rw [Nat.add_assoc];exact hc 3 _ rfl
   have q4:wr.cell? ⟨b,o+k * 7+4,none⟩ = some (.int .i64 xs[k].rank):=by rw [Nat.add_assoc];exact hc 4 _ rfl
   have q5:wr.cell? ⟨b,o+k * 7+5,none⟩ = some (.slice oh xs[k].needs.length nT):=by rw [Nat.add_assoc];exact hc 5 _ rfl
   have q6:wr.cell? ⟨b,o+k * 7+6,none⟩ = some (.slice fA xs[k].tolerances.length fB):=by rw [Nat.add_assoc];exact hc 6 _ rfl
   clear hc
   go_wp2_with (first
    | (at_builtin
       refine uf adG (by rfl) _ _ (by rfl) _ _ _ _ _ (hu.alloc _) (by rfl) [.int .i64 xs[k].cpu] aue (by rfl) aub (by omega) (by omega) avK ?_
       intro u2 w2 hu2 hg2 hz2 anT
       have hne:some wr.heap.size≠u5.ownBlock:=by intro e;have:=hu.lt _ e.symm;omega
       have p3:w2.cell? ⟨wr.heap.size,3,none⟩ = some (.int .i64 xs[k].mem):=hg2.cell awG hne
       have hb2:Below w.heap.size w w2:=lS (hu.alloc _) hg2 (ak hbl _) avK
       have hv2:=(hv.alloc _).kept hg2 hap.symm
       have hap2:=hap.grow (N:=_) hv (by simp;omega) anT)
    | (at_builtin
       refine uf adG (by rfl) _ _ (by rfl) _ _ _ _ _ hv2 (by rfl) [.int .i64 xs[k].mem] aue (by rfl) aub (by omega) (by omega) (hb2.size) ?_
       intro v2 w3 hv3 hg3 hz3 hat3
       have hu3:=hu2.kept hg3 hap2
       have hap3:DK v2 u2:=hap2.symm.grow (N:=_) hu2 (by omega) hat3
       have hb3:=lS hv2 hg3 hb2 hb2.size))
   exact Zadk
  ·have hkl:k = xs.length:=by omega
   subst hkl
   rw [List.take_length] at hu hv
   obtain ⟨Au,cu,Gu,rfl,hsu⟩:=Sl.oJ (xs:=xs.map nI.cpu) (by rw [List.length_map];exact hu) (Fv wr _ (by intro y hy;obtain ⟨p,hp,rfl⟩:=List.mem_map.1 hy;exact (hI.out p hp).1))
   obtain ⟨Av,cv,Gv,rfl,hsv⟩:=Sl.oJ (xs:=xs.map nI.mem) (by rw [List.length_map];exact hv) (Fv wr _ (by intro y hy;obtain ⟨p,hp,rfl⟩:=List.mem_map.1 hy;exact (hI.out p hp).2.1))
   clear hu hv hap
   rcases hr1:GZ (xs.map nI.cpu) 0 with _ | a <;> rcases hr2:GZ (xs.map nI.mem) 0 with _ | b
   all_goals
    have hfin:vU xs = _:=(by unfold vU;rw [hr1,hr2])
    have HF:=Lib.hid hfin
    have R1:=Lib.hid hr1
    have R2:=Lib.hid hr2
    clear hr1 hr2 hfin
    go_wp2_with fail
    refine (acC (xs.map nI.cpu) Au _ cu Gu _ hsu (by simp) awH).mono ?_
    rw [R1.out]
    rintro e w2 ⟨rfl,hb2⟩
    go_wp2_with fail
    refine (acC (xs.map nI.mem) Av _ cv Gv _ (hsv.ext hb2) (by simp) awH).mono ?_
    rw [R2.out]
    rintro e w3 ⟨rfl,hb3⟩
    go_wp2
    go_returns
    exact ⟨by rw [HF.out];rfl,ah (ah hbl hb2) hb3⟩
set_option maxRecDepth 100000 in
set_option maxHeartbeats 1000000 in
theorem ad8 (xs:List nI) (A:Option Addr) (n c:Nat) (F:List Nat) (w:World) (h:Sl w xs A c F) (hn:n = xs.length) (hl:(xs.length:Int)≤1048576) :
 Calls Tryz.prog 137 #[.slice A n c] w fun e w'=>e = .returned (am8 (vU xs))∧Below w.heap.size w w':=by
 subst hn
 have hI:=Lib.hid h.apG
 go_enter Tryz.func137,Tryz.ntmps137
 go_wp2_with fail
 go_loopw [5,6,7] (fun u v i wr=>∃(k:Nat),k≤xs.length∧i = .int .i64 k∧wr.ownsRow w.heap.size 3 1 u k (iv ((xs.take k).map nI.cpu))∧wr.ownsRow w.heap.size 3 1 v k (iv ((xs.take k).map nI.mem))∧DK u v∧Below w.heap.size w wr) (fun _ _ i _=>xs.length - (intOf i).toNat)
 case atStart =>
  exact Zach
 case round =>
  obtain ⟨k,hk,rfl,hu,hv,hap,hbl⟩:=hrel
  have hlts:=hu.lt
  by_cases hlt:k < xs.length
  ·obtain ⟨b,o,ck,Fk,rfl,o9,hbs,hr,hsub,hc⟩:=(Sl.ext (w':=wr) (A:=A) (c:=c) h hbl).get hlt
   have hbw:=h.lt b o9
   obtain ⟨gu,gy,jw,oh,nT,wG,fA,fB,jY,hck,su,hname,dO,vg,hmem,BJ,mX,eG⟩:=dL hr
   subst hck
   have q0:wr.cell? ⟨b,o+k * 7,none⟩ = some (.string xs[k].name):=by exact hc 0 _ rfl
   have q1:wr.cell? ⟨b,o+k * 7+1,none⟩ = some (.slice gu xs[k].labels.length gy):=by rw [Nat.add_assoc];exact hc 1 _ rfl
   have q2:wr.cell? ⟨b,o+k * 7+2,none⟩ = some (.int .i64 xs[k].cpu):=by rw [Nat.add_assoc];exact hc 2 _ rfl
   have q3:wr.cell? ⟨b,o+k * 7+3,none⟩ = some (.int .i64 xs[k].mem):=by rw [Nat.add_assoc];exact hc 3 _ rfl
   have q4:wr.cell? ⟨b,o+k * 7+4,none⟩ = some (.int .i64 xs[k].rank):=by rw [Nat.add_assoc];exact hc 4 _ rfl
   have q5:wr.cell? ⟨b,o+k * 7+5,none⟩ = some (.slice oh xs[k].needs.length nT):=by rw [Nat.add_assoc];exact hc 5 _ rfl
   have q6:wr.cell? ⟨b,o+k * 7+6,none⟩ = some (.slice fA xs[k].tolerances.length fB):=by rw [Nat.add_assoc];exact hc 6 _ rfl
   clear hc
   go_wp2_with (first
    | (at_builtin
       refine uf adG (by rfl) _ _ (by rfl) _ _ _ _ _ hu (by rfl) [.int .i64 xs[k].cpu] aue (by rfl) aub (by omega) (by omega) (hbl.size) ?_
       intro u2 w2 hu2 hg2 hz2 anT
       have hne:some b≠u5.ownBlock:=by intro e;have:=hu.lt _ e.symm;omega
       replace q3:=hg2.cell q3 hne
       have hb2:Below w.heap.size w w2:=lS hu hg2 hbl hbl.size
       have hv2:=hv.kept hg2 hap.symm
       have hap2:=hap.grow (N:=_) hv (by omega) anT)
    | (at_builtin
       refine uf adG (by rfl) _ _ (by rfl) _ _ _ _ _ hv2 (by rfl) [.int .i64 xs[k].mem] aue (by rfl) aub (by omega) (by omega) (hb2.size) ?_
       intro v2 w3 hv3 hg3 hz3 hat3
       have hu3:=hu2.kept hg3 hap2
       have hap3:DK v2 u2:=hap2.symm.grow (N:=_) hu2 (by omega) hat3
       have hb3:=lS hv2 hg3 hb2 hb2.size))
   exact Zadk
  ·have hkl:k = xs.length:=by omega
   subst hkl
   rw [List.take_length] at hu hv
   obtain ⟨Au,cu,Gu,rfl,hsu⟩:=Sl.oJ (xs:=xs.map nI.cpu) (by rw [List.length_map];exact hu) (Fv wr _ (by intro y hy;obtain ⟨p,hp,rfl⟩:=List.mem_map.1 hy;exact (hI.out p hp).1))
   obtain ⟨Av,cv,Gv,rfl,hsv⟩:=Sl.oJ (xs:=xs.map nI.mem) (by rw [List.length_map];exact hv) (Fv wr _ (by intro y hy;obtain ⟨p,hp,rfl⟩:=List.mem_map.1 hy;exact (hI.out p hp).2.1))
   clear hu hv hap
   rcases hr1:GZ (xs.map nI.cpu) 0 with _ | a <;> rcases hr2:GZ (xs.map nI.mem) 0 with _ | b
   all_goals
    have hfin:vU xs = _:=(by unfold vU;rw [hr1,hr2])
    have HF:=Lib.hid hfin
    have R1:=Lib.hid hr1
    have R2:=Lib.hid hr2
    clear hr1 hr2 hfin
    go_wp2_with fail
    refine (acD (xs.map nI.cpu) Au _ cu Gu _ hsu (by simp) awH).mono ?_
    rw [R1.out]
    rintro e w2 ⟨rfl,hb2⟩
    go_wp2_with fail
    refine (acD (xs.map nI.mem) Av _ cv Gv _ (hsv.ext hb2) (by simp) awH).mono ?_
    rw [R2.out]
    rintro e w3 ⟨rfl,hb3⟩
    go_wp2
    go_returns
    exact ⟨by rw [HF.out];rfl,ah (ah hbl hb2) hb3⟩
end Go.Proofs.YtfdgeonannkmaaaGreat
namespace Go.Proofs.YtfdgeonannkmaaaGreat
open Go.ChangeShapes Go.WideShapes Go.ChangeAt Go.RowKit
set_option linter.unusedVariables false
set_option linter.unusedSimpArgs false
def onP (nm:ByteArray) (p:Placed):Bool:=!(nm.toList == [])&&(p.on.toList == nm.toList)
def F7 (nm:ByteArray) (xs:List Placed):List nI:=(xs.filter (onP nm)).map Placed.aS
theorem ae8 {nm:ByteArray} {xs:List Placed} {k:Nat} (h:k < xs.length) (hp:onP nm xs[k] = true):F7 nm (xs.take (k+1)) = F7 nm (xs.take k)++[xs[k].aS]:=by
 unfold F7;rw [List.take_succ_eq_append_getElem h,List.filter_append,List.map_append];simp [hp]
theorem YC {nm:ByteArray} {xs:List Placed} {k:Nat} (h:k < xs.length) (hp:onP nm xs[k] = false):F7 nm (xs.take (k+1)) = F7 nm (xs.take k):=by
 unfold F7;rw [List.take_succ_eq_append_getElem h,List.filter_append,List.map_append];simp [hp]
theorem NK (nm:ByteArray) (xs:List Placed):(F7 nm xs).length≤xs.length:=by unfold F7;rw [List.length_map];exact List.length_filter_le _ _
theorem acI (nm:ByteArray) (xs:List Placed) (k:Nat):(F7 nm (xs.take k)).length≤k:=Nat.le_trans (NK _ _) avI
theorem ajl (nm:ByteArray) (xs:List Placed) (h:nm.toList = []):F7 nm xs = []:=by
 unfold F7 onP;simp [h]
def KF (nm:ByteArray) (xs:List Placed):Value :=
 match vU (F7 nm xs) with
 | some (a,b)=>.tuple #[.int .i64 a,.int .i64 b,.int .i64 (F7 nm xs).length,.bool true]
 | none=>.tuple #[.int .i64 0,.int .i64 0,.int .i64 0,.bool false]
theorem asM:(Tryz.prog.info? 47).map (fun i=>(i.zero,i.size,i.bytes)) = some (some (.agg #[.string ⟨#[]⟩,.slice none 0 0,.int .i64 0,.int .i64 0,.int .i64 0,.slice none 0 0,.slice none 0 0]),7,112):=by kernel_rfl
theorem asN:DL Tryz.prog 170 47 (.agg #[.string ⟨#[]⟩,.slice none 0 0,.int .i64 0,.int .i64 0,.int .i64 0,.slice none 0 0,.slice none 0 0]) 7 112:=⟨Tryz.underlying170,asM,rfl,by omega⟩
set_option maxRecDepth 100000 in
set_option maxHeartbeats 1000000 in
theorem iQ (x:aU) (cs:List Value) (F:List Nat) (nm:ByteArray) (w:World) (h:rd w x cs F) (hl:(x.au.length:Int)≤1048576) :
 Calls Tryz.prog 96 #[.agg cs.toArray,.string nm] w fun e w'=>e = .returned (KF nm x.au)∧Below w.heap.size w w':=by
 obtain ⟨bG,bD,fQ,dn,bW,jg,hck,qp,bQ,dM,hnext,aV,aP,aW⟩:=aO h
 subst hck
 clear qp
 go_enter Tryz.func96,Tryz.ntmps96
 go_wp2_with fail
 go_loopw [8,18] (fun v i wr=>∃(k:Nat) (ds:List Value) (G:List Nat),k≤x.au.length∧i = .int .i64 k∧wr.ownsRow (w.heap.size+1) 47 7 v (F7 nm (x.au.take k)).length ds∧jo w (F7 nm (x.au.take k)) ds G∧wr.cell? ⟨w.heap.size,1,none⟩ = some (.slice dn x.au.length bW)∧Below w.heap.size w wr) (fun _ i _=>x.au.length - (intOf i).toNat)
 case atStart =>
  exact Zab5
 case round =>
  obtain ⟨k,ds,G,hk,rfl,hown,hcs,hqc,hbl⟩:=hrel
  have hqz:w.heap.size < wr.heap.size:=World.block_lt_of_cell? wr _ hqc
  by_cases hlt:k < x.au.length
  ·have hol:=acI nm x.au k
   have hnq:some w.heap.size≠u8.ownBlock:=by intro e;have:=hown.lt _ e.symm;omega
   obtain ⟨b,o,ck,Fk,rfl,o9,hbs,hr,hsub,hc⟩:=Sl.get (α:=Placed) (A:=dn) (c:=bW) dM hlt
   obtain ⟨c1,c2,F1,F2,rfl,rfl,QS,_,_,_,_,rfl,rfl,⟨rfl,rfl,hon⟩,⟨rfl,rfl,hseq⟩⟩:=hr
   have abj:=QS
   obtain ⟨gV,gW,lF,iR,iT,mV,dD,dF,iH,hck,su,nY,iE,rF,rG,oZ,je,dN⟩:=dL QS
   subst hck
   clear su QS iE je dN
   have q0:w.cell? ⟨b,o+k * 9,none⟩ = some (.string x.au[k].aS.name):=by exact hc 0 _ rfl
   have q1:w.cell? ⟨b,o+k * 9+1,none⟩ = some (.slice gV x.au[k].aS.labels.length gW):=by rw [Nat.add_assoc];exact hc 1 _ rfl
   have q2:w.cell? ⟨b,o+k * 9+2,none⟩ = some (.int .i64 x.au[k].aS.cpu):=by rw [Nat.add_assoc];exact hc 2 _ rfl
   have q3:w.cell? ⟨b,o+k * 9+3,none⟩ = some (.int .i64 x.au[k].aS.mem):=by rw [Nat.add_assoc];exact hc 3 _ rfl
   have q4:w.cell? ⟨b,o+k * 9+4,none⟩ = some (.int .i64 x.au[k].aS.rank):=by rw [Nat.add_assoc];exact hc 4 _ rfl
   have q5:w.cell? ⟨b,o+k * 9+5,none⟩ = some (.slice iR x.au[k].aS.needs.length iT):=by rw [Nat.add_assoc];exact hc 5 _ rfl
   have q6:w.cell? ⟨b,o+k * 9+6,none⟩ = some (.slice dD x.au[k].aS.tolerances.length dF):=by rw [Nat.add_assoc];exact hc 6 _ rfl
   have q7:w.cell? ⟨b,o+k * 9+7,none⟩ = some (.string x.au[k].on):=by rw [Nat.add_assoc];exact hc 7 _ rfl
   have q8:w.cell? ⟨b,o+k * 9+8,none⟩ = some (.int .i64 x.au[k].seq):=by rw [Nat.add_assoc];exact hc 8 _ rfl
   clear hc
   replace q0:=((ay hbl).1 b _ hbs).trans q0
   replace q1:=((ay hbl).1 b _ hbs).trans q1
   replace q2:=((ay hbl).1 b _ hbs).trans q2
   replace q3:=((ay hbl).1 b _ hbs).trans q3
   replace q4:=((ay hbl).1 b _ hbs).trans q4
   replace q5:=((ay hbl).1 b _ hbs).trans q5
   replace q6:=((ay hbl).1 b _ hbs).trans q6
   replace q7:=((ay hbl).1 b _ hbs).trans q7
   replace q8:=((ay hbl).1 b _ hbs).trans q8
   cases hs1:(nm.toList == []) <;> cases hs2:(x.au[k].on.toList == nm.toList)
   all_goals
    have hp:onP nm x.au[k] = _:=avV
    simp only [Bool.not_true,Bool.not_false,Bool.true_and,Bool.false_and] at hp
    have HP:=Lib.hid hp
    clear hp
    go_wp2_with (
     at_builtin
     go_must (refine lC asN (by rfl) _ _ (by rfl) _ _ _ _ _ (hown.alloc _) (by rfl) [.string x.au[k].aS.name,.slice gV x.au[k].aS.labels.length gW,.int .i64 x.au[k].aS.cpu,.int .i64 x.au[k].aS.mem,.int .i64 x.au[k].aS.rank,.slice iR x.au[k].aS.needs.length iT,.slice dD x.au[k].aS.tolerances.length dF] aue (by rfl) aub (by omega) (by omega) avJ ?_)
     intro v2 w2 hown2 hg2 hz2
     go_must (have hb2:Below w.heap.size w w2:=lS (B:=w.heap.size) ((vP hown (Nat.le_succ _)).alloc _) hg2 (ak hbl _) avK)
     go_must (have alJ:=hg2.cell ((World.cell?_of_block (heap_alloc_old wr _ (by omega))).trans hqc) hnq))
    first
     | exact ⟨⟨k+1,_,_,by omega,by go_num,(by rw [YC hlt HP.out];exact hown),awK,hqc,hbl⟩,by simp [intOf];omega⟩
     | exact ⟨⟨k+1,_,_,by omega,by go_num,(by rw [ae8 hlt HP.out,List.length_append];exact hown2),(by rw [ae8 hlt HP.out];exact hcs.append (.single abj)),alJ,hb2⟩,by simp [intOf];omega⟩
     | exact ⟨⟨k+1,_,_,by omega,by go_num,(by rw [YC hlt HP.out];exact hown.alloc _),awK,(World.cell?_of_block (heap_alloc_old wr _ (by omega))).trans hqc,ak hbl _⟩,by simp [intOf];omega⟩
  ·have hkl:k = x.au.length:=by omega
   subst hkl
   rw [List.take_length] at hown hcs
   obtain ⟨Al,cl,Gl,rfl,hsl⟩:=Sl.oJ hown (hcs.frame (fun b hb=>hbl.block b (hcs.lt b hb)) hbl.size)
   have hol:=NK nm x.au
   clear hown hcs
   rcases hr1:vU (F7 nm x.au) with _ | ⟨a,b⟩
   all_goals
    have hfin:KF nm x.au = _:=awh
    have HF:=Lib.hid hfin
    have R1:=Lib.hid hr1
    clear hr1 hfin
    go_wp2_with fail
    refine (am9 (F7 nm x.au) Al _ cl Gl _ hsl rfl (by omega)).mono ?_
    rw [R1.out]
    simp only [am8]
    rintro e w2 ⟨rfl,hb2⟩
    go_wp2
    go_returns
    exact ⟨by rw [HF.out],ah hbl hb2⟩
set_option maxRecDepth 100000 in
set_option maxHeartbeats 1000000 in
theorem jm (x:aU) (cs:List Value) (F:List Nat) (nm:ByteArray) (w:World) (h:rd w x cs F) (hl:(x.au.length:Int)≤1048576) :
 Calls Tryz.prog 85 #[.agg cs.toArray,.string nm] w fun e w'=>e = .returned (KF nm x.au)∧Below w.heap.size w w':=by
 obtain ⟨bG,bD,fQ,dn,bW,jg,hck,qp,bQ,dM,hnext,aV,aP,aW⟩:=aO h
 subst hck
 clear qp
 go_enter Tryz.func85,Tryz.ntmps85
 go_wp2_with fail
 go_loopw [8,9] (fun v i wr=>∃(k:Nat) (ds:List Value) (G:List Nat),k≤x.au.length∧i = .int .i64 k∧wr.ownsRow (w.heap.size+1) 47 7 v (F7 nm (x.au.take k)).length ds∧jo w (F7 nm (x.au.take k)) ds G∧wr.cell? ⟨w.heap.size,1,none⟩ = some (.slice dn x.au.length bW)∧Below w.heap.size w wr) (fun _ i _=>x.au.length - (intOf i).toNat)
 case atStart =>
  exact Zab5
 case round =>
  obtain ⟨k,ds,G,hk,rfl,hown,hcs,hqc,hbl⟩:=hrel
  have hqz:w.heap.size < wr.heap.size:=World.block_lt_of_cell? wr _ hqc
  cases hs1:(nm.toList == []) with
  | true =>
    have he:nm.toList = []:=by simpa using hs1
    rw [ajl nm _ he,← ajl nm x.au he] at hown hcs
    by_cases hlt:k < x.au.length
    all_goals
     obtain ⟨Al,cl,Gl,rfl,hsl⟩:=Sl.oJ hown (hcs.frame (fun b hb=>hbl.block b (hcs.lt b hb)) hbl.size)
     have hol:=NK nm x.au
     clear hown hcs
     rcases hr1:vU (F7 nm x.au) with _ | ⟨a,b⟩
     all_goals
      have hfin:KF nm x.au = _:=awh
      have HF:=Lib.hid hfin
      have R1:=Lib.hid hr1
      clear hr1 hfin
      go_wp2_with fail
      refine (ad8 (F7 nm x.au) Al _ cl Gl _ hsl rfl (by omega)).mono ?_
      rw [R1.out]
      simp only [am8]
      rintro e w2 ⟨rfl,hb2⟩
      go_wp2
      go_returns
      exact ⟨by rw [HF.out],ah hbl hb2⟩
  | false =>
    by_cases hlt:k < x.au.length
    ·have hol:=acI nm x.au k
     have hnq:some w.heap.size≠u8.ownBlock:=by intro e;have:=hown.lt _ e.symm;omega
     obtain ⟨b,o,ck,Fk,rfl,o9,hbs,hr,hsub,hc⟩:=Sl.get (α:=Placed) (A:=dn) (c:=bW) dM hlt
     obtain ⟨c1,c2,F1,F2,rfl,rfl,QS,_,_,_,_,rfl,rfl,⟨rfl,rfl,hon⟩,⟨rfl,rfl,hseq⟩⟩:=hr
     have abj:=QS
     obtain ⟨gV,gW,lF,iR,iT,mV,dD,dF,iH,hck,su,nY,iE,rF,rG,oZ,je,dN⟩:=dL QS
     subst hck
     clear su QS iE je dN
     have q0:w.cell? ⟨b,o+k * 9,none⟩ = some (.string x.au[k].aS.name):=by exact hc 0 _ rfl
     have q1:w.cell? ⟨b,o+k * 9+1,none⟩ = some (.slice gV x.au[k].aS.labels.length gW):=by rw [Nat.add_assoc];exact hc 1 _ rfl
     have q2:w.cell? ⟨b,o+k * 9+2,none⟩ = some (.int .i64 x.au[k].aS.cpu):=by rw [Nat.add_assoc];exact hc 2 _ rfl
     have q3:w.cell? ⟨b,o+k * 9+3,none⟩ = some (.int .i64 x.au[k].aS.mem):=by rw [Nat.add_assoc];exact hc 3 _ rfl
     have q4:w.cell? ⟨b,o+k * 9+4,none⟩ = some (.int .i64 x.au[k].aS.rank):=by rw [Nat.add_assoc];exact hc 4 _ rfl
     have q5:w.cell? ⟨b,o+k * 9+5,none⟩ = some (.slice iR x.au[k].aS.needs.length iT):=by rw [Nat.add_assoc];exact hc 5 _ rfl
     have q6:w.cell? ⟨b,o+k * 9+6,none⟩ = some (.slice dD x.au[k].aS.tolerances.length dF):=by rw [Nat.add_assoc];exact hc 6 _ rfl
     have q7:w.cell? ⟨b,o+k * 9+7,none⟩ = some (.string x.au[k].on):=by rw [Nat.add_assoc];exact hc 7 _ rfl
     have q8:w.cell? ⟨b,o+k * 9+8,none⟩ = some (.int .i64 x.au[k].seq):=by rw [Nat.add_assoc];exact hc 8 _ rfl
     clear hc
     replace q0:=((ay hbl).1 b _ hbs).trans q0
     replace q1:=((ay hbl).1 b _ hbs).trans q1
     replace q2:=((ay hbl).1 b _ hbs).trans q2
     replace q3:=((ay hbl).1 b _ hbs).trans q3
     replace q4:=((ay hbl).1 b _ hbs).trans q4
     replace q5:=((ay hbl).1 b _ hbs).trans q5
     replace q6:=((ay hbl).1 b _ hbs).trans q6
     replace q7:=((ay hbl).1 b _ hbs).trans q7
     replace q8:=((ay hbl).1 b _ hbs).trans q8
     cases hs2:(x.au[k].on.toList == nm.toList)
     all_goals
      have hp:onP nm x.au[k] = _:=avV
      simp only [Bool.not_true,Bool.not_false,Bool.true_and,Bool.false_and] at hp
      have HP:=Lib.hid hp
      clear hp
      go_wp2_with (
       at_builtin
       go_must (refine lC asN (by rfl) _ _ (by rfl) _ _ _ _ _ hown (by rfl) [.string x.au[k].aS.name,.slice gV x.au[k].aS.labels.length gW,.int .i64 x.au[k].aS.cpu,.int .i64 x.au[k].aS.mem,.int .i64 x.au[k].aS.rank,.slice iR x.au[k].aS.needs.length iT,.slice dD x.au[k].aS.tolerances.length dF] aue (by rfl) aub (by omega) (by omega) avJ ?_)
       intro v2 w2 hown2 hg2 hz2
       go_must (have hb2:Below w.heap.size w w2:=lS (vP hown (Nat.le_succ _)) hg2 hbl hbl.size)
       go_must (have alJ:=hg2.cell hqc hnq))
      first
       | exact ⟨⟨k+1,_,_,by omega,by go_num,(by rw [YC hlt HP.out];exact hown),awK,hqc,hbl⟩,by simp [intOf];omega⟩
       | exact ⟨⟨k+1,_,_,by omega,by go_num,(by rw [ae8 hlt HP.out,List.length_append];exact hown2),(by rw [ae8 hlt HP.out];exact hcs.append (.single abj)),alJ,hb2⟩,by simp [intOf];omega⟩
       | exact ⟨⟨k+1,_,_,by omega,by go_num,(by rw [YC hlt HP.out];exact hown.alloc _),awK,(World.cell?_of_block (heap_alloc_old wr _ (by omega))).trans hqc,ak hbl _⟩,by simp [intOf];omega⟩
    ·have hkl:k = x.au.length:=by omega
     subst hkl
     rw [List.take_length] at hown hcs
     obtain ⟨Al,cl,Gl,rfl,hsl⟩:=Sl.oJ hown (hcs.frame (fun b hb=>hbl.block b (hcs.lt b hb)) hbl.size)
     have hol:=NK nm x.au
     clear hown hcs
     rcases hr1:vU (F7 nm x.au) with _ | ⟨a,b⟩
     all_goals
      have hfin:KF nm x.au = _:=awh
      have HF:=Lib.hid hfin
      have R1:=Lib.hid hr1
      clear hr1 hfin
      go_wp2_with fail
      refine (ad8 (F7 nm x.au) Al _ cl Gl _ hsl rfl (by omega)).mono ?_
      rw [R1.out]
      simp only [am8]
      rintro e w2 ⟨rfl,hb2⟩
      go_wp2
      go_returns
      exact ⟨by rw [HF.out],ah hbl hb2⟩
end Go.Proofs.YtfdgeonannkmaaaGreat
