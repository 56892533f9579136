/- laws' copies. -/
import Derived.Test.YtkjeocdobidadaaGreatWords
import Derived.Test.YtkjeocdobidadaaGreatLabelsOk
import Derived.Test.YtkjeocdobidadaaGreatData
namespace Go.Proofs.YtkjeocdobidadaaGreat
open Go.ChangeShapes Go.WideShapes Go.ChangeAt Go.RowKit
set_option linter.unusedVariables false
set_option linter.unusedSimpArgs false
set_option maxHeartbeats 1000000
set_option maxRecDepth 100000
section
variable {α β:Type} [Dat α] [Dat β] {w:World} {B B2:Nat} {x:α} {y:β} {c1 c2:List Value} {F1 F2:List Nat}
theorem Own.pair (h1:Own w B x c1 F1) (h2:Own w B2 y c2 F2) (hB:B≤B2) (hF:∀b∈F1,b < B2):Own w B (x,y) (c1++c2) (F1++F2):=by
 refine ⟨⟨c1,c2,F1,F2,rfl,rfl,h1.rd,h2.rd⟩,?_,?_,?_⟩
 ·rw [List.nodup_append];exact ⟨h1.nodup,h2.nodup,fun a ha b hb=>by have:=hF a ha;have:=h2.base b hb;omega⟩
 ·intro b hb;rcases List.mem_append.1 hb with hb | hb
  ·exact h1.base b hb
  ·exact Nat.le_trans hB (h2.base b hb)
 ·intro b hb;rcases List.mem_append.1 hb with hb | hb
  ·exact h1.plain b hb
  ·exact h2.plain b hb
theorem Own.up {γ:Type} {z:γ} {cs:List Value} {F:List Nat} {B':Nat} (g:γ→β) (h:Own w B' (g z) cs F) (hB:B≤B'):@Own γ (Dat.iso g) w B z cs F :=
 @Own.mk γ (Dat.iso g) w B z cs F h.rd h.nodup (fun b hb=>Nat.le_trans hB (h.base b hb)) h.plain
theorem Own.cons (h1:Go.Proofs.YtkjeocdobidadaaGreat.Dat.rd w x c1 []) (h2:Own w B y c2 F2):Own w B (x,y) (c1++c2) F2:=by
 have:=(Own.flat (B:=B) h1).pair h2 (Nat.le_refl _) (fun b hb=>by cases hb);simpa using this
end
theorem ao2:(Tryz.prog.info? 9).map (fun i=>(i.zero,i.size,i.bytes)) = some (some (.string ⟨#[]⟩),1,16):=by kernel_rfl
theorem qw:DL Tryz.prog 49 9 (.string ⟨#[]⟩) 1 16:=⟨Tryz.underlying49,ao2,rfl,O'⟩
theorem Ce {a b:ByteArray} (h:(a.toList == b.toList) = true):a = b:=by
 have h1:a.toList = b.toList:=by simpa using h
 have h2:a.data.toList = b.data.toList:=by rw [← ByteArray.toList_eq,← ByteArray.toList_eq];exact h1
 cases a;cases b;simp_all
def eqStr (a b:ByteArray):Bool:=a.toList == b.toList
theorem PW (a b:ByteArray):eqStr a b = true↔a = b:=⟨Ce,fun h=>by subst h;simp [eqStr]⟩
def same {α:Type} (eq:α→α→Bool):List α→List α→Bool
 | [],[]=>true
 | a :: l,b :: m=>eq a b&&same eq l m
 | _,_=>false
def Aq (a b:iU):Bool:=(a.key.toList == b.key.toList)&&(a.value.toList == b.value.toList)&&(a.effect == b.effect)
theorem Xx (a b:iU):Aq a b = true↔a = b:=by
 constructor
 ·intro h;simp only [Aq,Bool.and_eq_true] at h;have h0:=Ce h.1.1;have h1:=Ce h.1.2;have h2:=eq_of_beq h.2;cases a;cases b
  simp only at h0 h1 h2;subst h0 h1 h2;rfl
 ·rintro rfl;simp [Aq, *]
def oP (a b:bH):Bool:=(a.key.toList == b.key.toList)&&(a.equal == b.equal)&&(a.value.toList == b.value.toList)&&(a.effect == b.effect)
theorem WC (a b:bH):oP a b = true↔a = b:=by
 constructor
 ·intro h;simp only [oP,Bool.and_eq_true] at h;have h0:=Ce h.1.1.1;have h1:=eq_of_beq h.1.1.2;have h2:=Ce h.1.2;have h3:=eq_of_beq h.2;cases a;cases b
  simp only at h0 h1 h2 h3;subst h0 h1 h2 h3;rfl
 ·rintro rfl;simp [oP, *]
theorem aZ {α:Type} [Dat α] {w w':World} {x:α} {cs:List Value} {F:List Nat} (h:rd w x cs F) (hb:Below w.heap.size w w'):rd w' x cs F :=
 Dat.frame h (fun b hb'=>hb.block b (Dat.lt h b hb')) hb.size
def GX (a b:Int):Option Int:=if a < 0∨b < 0∨9223372036854775807 - b < a then none else some (a+b)
theorem abW {a b t:Int} (h:GX a b = some t) (ha:I64 a) (hb:I64 b):I64 t:=by
 unfold GX at h;split at h
 ·cases h
 ·cases h
  unfold I64 at *;omega
def GZ:List Int→Int→Option Int
 | [],s=>some s
 | x :: xs,s=>match GX s x with | none=>none | some m=>GZ xs m
theorem J9 (a b:Int) (w:World) (ha:I64 a) (hb:I64 b):Calls Tryz.prog 135 #[.int .i64 a,.int .i64 b] w fun e w'=>e = .returned (.tuple #[.int .i64 ((GX a b).getD 0),.bool (GX a b).isSome])∧Below w.heap.size w w':=by
 obtain ⟨ha0,ha1⟩:=ha;obtain ⟨hb0,hb1⟩:=hb;by_cases h1:a < 0
 ·exact Zacy
 by_cases h2:b < 0
 ·exact Zacy
 by_cases h3:9223372036854775807 - b < a
 ·exact Zacy
 ·have e:GX a b = some (a+b):=by unfold GX;rw [if_neg O']
  rw [e];go_enter Tryz.func135,Tryz.ntmps135;go_wp2;go_returns
  exact ⟨rfl,aj _⟩
theorem oQ (a b:Int) (w:World) (ha:I64 a) (hb:I64 b):Calls Tryz.prog 182 #[.int .i64 a,.int .i64 b] w fun e w'=>e = .returned (.tuple #[.int .i64 ((GX a b).getD 0),.bool (GX a b).isSome])∧Below w.heap.size w w':=by
 obtain ⟨ha0,ha1⟩:=ha;obtain ⟨hb0,hb1⟩:=hb;by_cases h1:a < 0
 ·exact Zacz
 by_cases h2:b < 0
 ·exact Zacz
 by_cases h3:9223372036854775807 - b < a
 ·exact Zacz
 ·have e:GX a b = some (a+b):=by unfold GX;rw [if_neg O']
  rw [e];go_enter Tryz.func182,Tryz.ntmps182;go_wp2;go_returns
  exact ⟨rfl,aj _⟩
theorem acC (xs:List Int) (A:Option Addr) (n c:Nat) (F:List Nat) (w:World) (h:Sl w xs A c F) (hn:n = xs.length) (hl:(xs.length:Int)≤1048576) :
 Calls Tryz.prog 107 #[.slice A n c] w fun e w'=>e = .returned (.tuple #[.int .i64 ((GZ xs 0).getD 0),.bool (GZ xs 0).isSome])∧Below w.heap.size w w':=by
 subst hn;go_enter Tryz.func107,Tryz.ntmps107;go_wp2_with fail
 go_loopw [4,11] (fun x i wr=>∃(k:Nat) (s:Int),k≤xs.length∧i = .int .i64 k∧x = .int .i64 s∧I64 s∧Hid (GZ xs 0 = GZ (xs.drop k) s)∧Below w.heap.size w wr) (fun _ i _=>xs.length - (intOf i).toNat)
 case atStart=>exact ⟨0,0,Nat.zero_le _,rfl,rfl,⟨by decide,by decide⟩,rfl,aj _⟩
 case round =>
  obtain ⟨k,s,hk,rfl,rfl,hs,HS,hbl⟩:=hrel;by_cases hlt:k < xs.length
  ·obtain ⟨b,o,ck,Fk,rfl,o9,hbs,hr,hsub,hc⟩:=(Sl.ext (w':=wr) (A:=A) (c:=c) h hbl).get hlt;obtain ⟨hck,su,hI⟩:=hr;subst hck su;have q0:wr.cell? ⟨b,o+k,none⟩ = some (.int .i64 xs[k]):=(by have:=hc 0 _ rfl;rwa [show o+(k * Dat.size Int+0) = o+k from by show o+(k * 1+0) = _;omega] at this);clear hc;have hdr:GZ (xs.drop k) s = GZ (xs[k] :: xs.drop (k+1)) s:=(by rw [List.getElem_cons_drop]);have hsI:=hs;have hxI:=hI;generalize hxk:xs[k] = y at *;cases ha:GX s y with
   | none =>
     have hf:GZ xs 0 = none:=(by rw [HS.out,hdr,GZ,ha]);have HF:=I' hf;clear hf hdr;have HA:=I' ha;clear ha;go_wp2_with (go_at_call 135;refine (J9 s y _ hsI hxI).mono ?_;rw [HA.out];rintro e w2 ⟨rfl,hb2⟩)
     go_returns
     exact ⟨by rw [HF.out];rfl,ah hbl hb2⟩
   | some t =>
     have hf:GZ xs 0 = GZ (xs.drop (k+1)) t:=(by rw [HS.out,hdr,GZ,ha]);have HF:=I' hf;have htI:=abW ha hsI hxI;clear hf hdr;have HA:=I' ha;clear ha;go_wp2_with (go_at_call 135;refine (J9 s y _ hsI hxI).mono ?_;rw [HA.out];rintro e w2 ⟨rfl,hb2⟩)
     exact ⟨⟨k+1,t,O',N',rfl,htI,HF.out,ah hbl hb2⟩,by simp [intOf];omega⟩
  ·exact Zade
theorem acD (xs:List Int) (A:Option Addr) (n c:Nat) (F:List Nat) (w:World) (h:Sl w xs A c F) (hn:n = xs.length) (hl:(xs.length:Int)≤1048576) :
 Calls Tryz.prog 188 #[.slice A n c] w fun e w'=>e = .returned (.tuple #[.int .i64 ((GZ xs 0).getD 0),.bool (GZ xs 0).isSome])∧Below w.heap.size w w':=by
 subst hn;go_enter Tryz.func188,Tryz.ntmps188;go_wp2_with fail
 go_loopw [4,5] (fun x i wr=>∃(k:Nat) (s:Int),k≤xs.length∧i = .int .i64 k∧x = .int .i64 s∧I64 s∧Hid (GZ xs 0 = GZ (xs.drop k) s)∧Below w.heap.size w wr) (fun _ i _=>xs.length - (intOf i).toNat)
 case atStart=>exact ⟨0,0,Nat.zero_le _,rfl,rfl,⟨by decide,by decide⟩,rfl,aj _⟩
 case round =>
  obtain ⟨k,s,hk,rfl,rfl,hs,HS,hbl⟩:=hrel;by_cases hlt:k < xs.length
  ·obtain ⟨b,o,ck,Fk,rfl,o9,hbs,hr,hsub,hc⟩:=(Sl.ext (w':=wr) (A:=A) (c:=c) h hbl).get hlt;obtain ⟨hck,su,hI⟩:=hr;subst hck su;have q0:wr.cell? ⟨b,o+k,none⟩ = some (.int .i64 xs[k]):=(by have:=hc 0 _ rfl;rwa [show o+(k * Dat.size Int+0) = o+k from by show o+(k * 1+0) = _;omega] at this);clear hc;have hdr:GZ (xs.drop k) s = GZ (xs[k] :: xs.drop (k+1)) s:=(by rw [List.getElem_cons_drop]);have hsI:=hs;have hxI:=hI;generalize hxk:xs[k] = y at *;cases ha:GX s y with
   | none =>
     have hf:GZ xs 0 = none:=(by rw [HS.out,hdr,GZ,ha]);have HF:=I' hf;clear hf hdr;have HA:=I' ha;clear ha;go_wp2_with (go_at_call 182;refine (oQ s y _ hsI hxI).mono ?_;rw [HA.out];rintro e w2 ⟨rfl,hb2⟩)
     go_returns
     exact ⟨by rw [HF.out];rfl,ah hbl hb2⟩
   | some t =>
     have hf:GZ xs 0 = GZ (xs.drop (k+1)) t:=(by rw [HS.out,hdr,GZ,ha]);have HF:=I' hf;have htI:=abW ha hsI hxI;clear hf hdr;have HA:=I' ha;clear ha;go_wp2_with (go_at_call 182;refine (oQ s y _ hsI hxI).mono ?_;rw [HA.out];rintro e w2 ⟨rfl,hb2⟩)
     exact ⟨⟨k+1,t,O',N',rfl,htI,HF.out,ah hbl hb2⟩,by simp [intOf];omega⟩
  ·exact Zade
def vU (xs:List nI):Option (Int × Int) :=
 match GZ (xs.map nI.cpu) 0,GZ (xs.map nI.mem) 0 with
 | some a,some b=>some (a,b)
 | _,_=>none
def am8:Option (Int × Int)→Value
 | some (a,b)=>.tuple #[.int .i64 a,.int .i64 b,.bool true]
 | none=>.tuple #[.int .i64 0,.int .i64 0,.bool false]
def iv (xs:List Int):List Value:=xs.map fun n=>.int .i64 n
theorem ae7 {α:Type} (f:α→Int) (xs:List α) (k:Nat) (h:k < xs.length):iv ((xs.take (k+1)).map f) = iv ((xs.take k).map f)++[.int .i64 (f xs[k])]:=by
 unfold iv;rw [List.take_succ_eq_append_getElem h,List.map_append,List.map_append];rfl
theorem Sl.apG {w:World} {xs:List nI} {A:Option Addr} {c:Nat} {F:List Nat} (h:Sl w xs A c F):∀p∈xs,I64 p.cpu∧I64 p.mem∧I64 p.rank:=by
 intro p hp;obtain ⟨k,hk,rfl⟩:=List.getElem_of_mem hp;obtain ⟨b,o,ck,Fk,_,_,_,hr,_,_⟩:=h.get hk;obtain ⟨gu,gy,jw,oh,nT,wG,fA,fB,jY,rfl,rfl,hname,dO,vg,hmem,BJ,mX,eG⟩:=dL hr;exact ⟨vg,hmem,BJ⟩
theorem am9 (xs:List nI) (A:Option Addr) (n c:Nat) (F:List Nat) (w:World) (h:Sl w xs A c F) (hn:n = xs.length) (hl:(xs.length:Int)≤1048576) :
 Calls Tryz.prog 57 #[.slice A n c] w fun e w'=>e = .returned (am8 (vU xs))∧Below w.heap.size w w':=by
 subst hn;have hI:=I' h.apG;go_enter Tryz.func57,Tryz.ntmps57;go_wp2_with fail
 go_loopw [5,6,17] (fun u v i wr=>∃(k:Nat),k≤xs.length∧i = .int .i64 k∧wr.ownsRow w.heap.size 3 1 u k (iv ((xs.take k).map nI.cpu))∧wr.ownsRow w.heap.size 3 1 v k (iv ((xs.take k).map nI.mem))∧DK u v∧Below w.heap.size w wr) (fun _ _ i _=>xs.length - (intOf i).toNat)
 case atStart =>exact Zacu
 case round =>
  obtain ⟨k,hk,rfl,hu,hv,hap,hbl⟩:=hrel;have hlts:=hu.lt;by_cases hlt:k < xs.length
  ·obtain ⟨b,o,ck,Fk,rfl,o9,hbs,hr,hsub,hc⟩:=(Sl.ext (w':=wr) (A:=A) (c:=c) h hbl).get hlt;have hbw:=h.lt b o9;obtain ⟨gu,gy,jw,oh,nT,wG,fA,fB,jY,hck,su,hname,dO,vg,hmem,BJ,mX,eG⟩:=dL hr;subst hck;have q0:wr.cell? ⟨b,o+k * 7,none⟩ = some (.string xs[k].name):=(by exact hc 0 _ rfl);have q1:wr.cell? ⟨b,o+k * 7+1,none⟩ = some (.slice gu xs[k].labels.length gy):=(by rw [Nat.add_assoc];exact hc 1 _ rfl);have q2:wr.cell? ⟨b,o+k * 7+2,none⟩ = some (.int .i64 xs[k].cpu):=(by rw [Nat.add_assoc];exact hc 2 _ rfl);have q3:wr.cell? ⟨b,o+k * 7+3,none⟩ = some (.int .i64 xs[k].mem):=(by rw [Nat.add_assoc];exact hc 3 _ rfl);have q4:wr.cell? ⟨b,o+k * 7+4,none⟩ = some (.int .i64 xs[k].rank):=(by rw [Nat.add_assoc];exact hc 4 _ rfl);have q5:wr.cell? ⟨b,o+k * 7+5,none⟩ = some (.slice oh xs[k].needs.length nT):=(by rw [Nat.add_assoc];exact hc 5 _ rfl);have q6:wr.cell? ⟨b,o+k * 7+6,none⟩ = some (.slice fA xs[k].tolerances.length fB):=(by rw [Nat.add_assoc];exact hc 6 _ rfl);clear hc
   go_wp2_with (first
    | (at_builtin
       refine uf adG J' _ _ J' _ _ _ _ _ (hu.alloc _) J' [.int .i64 xs[k].cpu] aue J' aub O' O' avK ?_;intro u2 w2 hu2 hg2 hz2 anT;have hne:some wr.heap.size≠u5.ownBlock:=(by intro e;have:=hu.lt _ e.symm;omega);have p3:w2.cell? ⟨wr.heap.size,3,none⟩ = some (.int .i64 xs[k].mem):=hg2.cell awG hne;have hb2:Below w.heap.size w w2:=lS (hu.alloc _) hg2 (ak hbl _) avK;have hv2:=(hv.alloc _).kept hg2 hap.symm
       have hap2:=hap.grow (N:=_) hv (by simp;omega) anT)
    | (at_builtin
       refine uf adG J' _ _ J' _ _ _ _ _ hv2 J' [.int .i64 xs[k].mem] aue J' aub O' O' (hb2.size) ?_;intro v2 w3 hv3 hg3 hz3 hat3;have hu3:=hu2.kept hg3 hap2;have hap3:DK v2 u2:=hap2.symm.grow (N:=_) hu2 O' hat3
       have hb3:=lS hv2 hg3 hb2 hb2.size))
   exact Zad5
  ·have hkl:k = xs.length:=O';subst hkl;rw [List.take_length] at hu hv;obtain ⟨Au,cu,Gu,rfl,hsu⟩:=Sl.oJ (xs:=xs.map nI.cpu) (by rw [List.length_map];exact hu) (Fv wr _ (by intro y hy;obtain ⟨p,hp,rfl⟩:=List.mem_map.1 hy;exact (hI.out p hp).1));obtain ⟨Av,cv,Gv,rfl,hsv⟩:=Sl.oJ (xs:=xs.map nI.mem) (by rw [List.length_map];exact hv) (Fv wr _ (by intro y hy;obtain ⟨p,hp,rfl⟩:=List.mem_map.1 hy;exact (hI.out p hp).2.1));clear hu hv hap;rcases hr1:GZ (xs.map nI.cpu) 0 with _ | a <;> rcases hr2:GZ (xs.map nI.mem) 0 with _ | b
   all_goals
    have hfin:vU xs = _:=(by unfold vU;rw [hr1,hr2]);have HF:=I' hfin;have R1:=I' hr1;have R2:=I' hr2;clear hr1 hr2 hfin;go_wp2_with fail
    refine (acC (xs.map nI.cpu) Au _ cu Gu _ hsu S' awH).mono ?_;rw [R1.out];rintro e w2 ⟨rfl,hb2⟩;go_wp2_with fail
    refine (acC (xs.map nI.mem) Av _ cv Gv _ (hsv.ext hb2) S' awH).mono ?_;rw [R2.out];rintro e w3 ⟨rfl,hb3⟩;go_wp2;go_returns
    exact ⟨by rw [HF.out];rfl,ah (ah hbl hb2) hb3⟩
theorem ad8 (xs:List nI) (A:Option Addr) (n c:Nat) (F:List Nat) (w:World) (h:Sl w xs A c F) (hn:n = xs.length) (hl:(xs.length:Int)≤1048576) :
 Calls Tryz.prog 137 #[.slice A n c] w fun e w'=>e = .returned (am8 (vU xs))∧Below w.heap.size w w':=by
 subst hn;have hI:=I' h.apG;go_enter Tryz.func137,Tryz.ntmps137;go_wp2_with fail
 go_loopw [5,6,7] (fun u v i wr=>∃(k:Nat),k≤xs.length∧i = .int .i64 k∧wr.ownsRow w.heap.size 3 1 u k (iv ((xs.take k).map nI.cpu))∧wr.ownsRow w.heap.size 3 1 v k (iv ((xs.take k).map nI.mem))∧DK u v∧Below w.heap.size w wr) (fun _ _ i _=>xs.length - (intOf i).toNat)
 case atStart =>exact Zacu
 case round =>
  obtain ⟨k,hk,rfl,hu,hv,hap,hbl⟩:=hrel;have hlts:=hu.lt;by_cases hlt:k < xs.length
  ·obtain ⟨b,o,ck,Fk,rfl,o9,hbs,hr,hsub,hc⟩:=(Sl.ext (w':=wr) (A:=A) (c:=c) h hbl).get hlt;have hbw:=h.lt b o9;obtain ⟨gu,gy,jw,oh,nT,wG,fA,fB,jY,hck,su,hname,dO,vg,hmem,BJ,mX,eG⟩:=dL hr;subst hck;have q0:wr.cell? ⟨b,o+k * 7,none⟩ = some (.string xs[k].name):=(by exact hc 0 _ rfl);have q1:wr.cell? ⟨b,o+k * 7+1,none⟩ = some (.slice gu xs[k].labels.length gy):=(by rw [Nat.add_assoc];exact hc 1 _ rfl);have q2:wr.cell? ⟨b,o+k * 7+2,none⟩ = some (.int .i64 xs[k].cpu):=(by rw [Nat.add_assoc];exact hc 2 _ rfl);have q3:wr.cell? ⟨b,o+k * 7+3,none⟩ = some (.int .i64 xs[k].mem):=(by rw [Nat.add_assoc];exact hc 3 _ rfl);have q4:wr.cell? ⟨b,o+k * 7+4,none⟩ = some (.int .i64 xs[k].rank):=(by rw [Nat.add_assoc];exact hc 4 _ rfl);have q5:wr.cell? ⟨b,o+k * 7+5,none⟩ = some (.slice oh xs[k].needs.length nT):=(by rw [Nat.add_assoc];exact hc 5 _ rfl);have q6:wr.cell? ⟨b,o+k * 7+6,none⟩ = some (.slice fA xs[k].tolerances.length fB):=(by rw [Nat.add_assoc];exact hc 6 _ rfl);clear hc
   go_wp2_with (first
    | (at_builtin
       refine uf adG J' _ _ J' _ _ _ _ _ hu J' [.int .i64 xs[k].cpu] aue J' aub O' O' (hbl.size) ?_;intro u2 w2 hu2 hg2 hz2 anT;have hne:some b≠u5.ownBlock:=(by intro e;have:=hu.lt _ e.symm;omega);replace q3:=hg2.cell q3 hne;have hb2:Below w.heap.size w w2:=lS hu hg2 hbl hbl.size;have hv2:=hv.kept hg2 hap.symm
       have hap2:=hap.grow (N:=_) hv O' anT)
    | (at_builtin
       refine uf adG J' _ _ J' _ _ _ _ _ hv2 J' [.int .i64 xs[k].mem] aue J' aub O' O' (hb2.size) ?_;intro v2 w3 hv3 hg3 hz3 hat3;have hu3:=hu2.kept hg3 hap2;have hap3:DK v2 u2:=hap2.symm.grow (N:=_) hu2 O' hat3
       have hb3:=lS hv2 hg3 hb2 hb2.size))
   exact Zad5
  ·have hkl:k = xs.length:=O';subst hkl;rw [List.take_length] at hu hv;obtain ⟨Au,cu,Gu,rfl,hsu⟩:=Sl.oJ (xs:=xs.map nI.cpu) (by rw [List.length_map];exact hu) (Fv wr _ (by intro y hy;obtain ⟨p,hp,rfl⟩:=List.mem_map.1 hy;exact (hI.out p hp).1));obtain ⟨Av,cv,Gv,rfl,hsv⟩:=Sl.oJ (xs:=xs.map nI.mem) (by rw [List.length_map];exact hv) (Fv wr _ (by intro y hy;obtain ⟨p,hp,rfl⟩:=List.mem_map.1 hy;exact (hI.out p hp).2.1));clear hu hv hap;rcases hr1:GZ (xs.map nI.cpu) 0 with _ | a <;> rcases hr2:GZ (xs.map nI.mem) 0 with _ | b
   all_goals
    have hfin:vU xs = _:=(by unfold vU;rw [hr1,hr2]);have HF:=I' hfin;have R1:=I' hr1;have R2:=I' hr2;clear hr1 hr2 hfin;go_wp2_with fail
    refine (acD (xs.map nI.cpu) Au _ cu Gu _ hsu S' awH).mono ?_;rw [R1.out];rintro e w2 ⟨rfl,hb2⟩;go_wp2_with fail
    refine (acD (xs.map nI.mem) Av _ cv Gv _ (hsv.ext hb2) S' awH).mono ?_;rw [R2.out];rintro e w3 ⟨rfl,hb3⟩;go_wp2;go_returns
    exact ⟨by rw [HF.out];rfl,ah (ah hbl hb2) hb3⟩
end Go.Proofs.YtkjeocdobidadaaGreat
