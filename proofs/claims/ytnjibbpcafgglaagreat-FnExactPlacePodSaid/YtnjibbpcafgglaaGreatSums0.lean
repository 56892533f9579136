/- append of one element, and where the new row lies; several rows of the call's own side by side; a row read as a slice. No condition. -/
import Derived.Test.YtnjibbpcafgglaaGreatAppend
import Derived.Maps.AppendAt
import Derived.Test.YtnjibbpcafgglaaGreatBase0
import Derived.Test.YtnjibbpcafgglaaGreatRegion
namespace Go.Proofs.YtnjibbpcafgglaaGreat
open Go.ChangeShapes Go.WideShapes Go.ChangeAt Go.RowKit
set_option linter.unusedVariables false
set_option linter.unusedSimpArgs false
theorem mG {w w':World} {B e size n:Nat} {v:Value} {xs:List Value} (h:w.ownsRow B e size v n xs) (hb:Below w.heap.size w w'):w'.ownsRow B e size v n xs :=
 h.kept (row:=none) ⟨hb.os,hb.tape,hb.output,hb.size,fun k hk _=>hb.block k hk⟩ (by cases hv:v.ownBlock <;> simp)
theorem vP {w:World} {B B' e size n:Nat} {v:Value} {xs:List Value} (h:w.ownsRow B e size v n xs) (hB:B'≤B):w.ownsRow B' e size v n xs:=by
 refine ⟨h.1,?_⟩
 rcases h.2 with h | ⟨g,cap,cur,h1,h2,h3⟩
 ·exact .inl h
 ·exact .inr ⟨g,cap,cur,h1,Nat.le_trans hB h2,h3⟩
def DK (u v:Value):Prop:=u.ownBlock = none∨u.ownBlock≠v.ownBlock
theorem DK.symm {u v:Value} (h:DK u v):DK v u:=by
 unfold DK at *
 rcases h with h | h
 ·cases hv:v.ownBlock with
  | none=>exact .inl rfl
  | some k=>right;rw [h];simp
 ·exact .inr (Ne.symm h)
theorem DK.grow {u u' v:Value} {w:World} {B e size n:Nat} {xs:List Value} (h:DK u v) (hv:w.ownsRow B e size v n xs) {N:Nat} (hN:w.heap.size≤N) (hat:u'.ownBlock = u.ownBlock∨u'.ownBlock = some N):DK u' v:=by
 rcases hat with hat | hat
 ·unfold DK at *;rw [hat];exact h
 ·right
  rw [hat]
  intro e
  have:=hv.lt N e.symm
  omega
section
variable {P:Program} {t e:TypeId} {z:Value} {size bytes:Nat}
theorem uf (hE:DL P t e z size bytes) {ops:Array Oper} {rest:List Oper} {o:Oper} {a:Act} {Q:Exit→Act→World→Prop} (hgd:o.guard = none) (s x:Operand)
 (ho:o.op = .call { callee:=.builtin .append,args:=#[s,x],argTypes:=#[t,t] })
 (w:World) (base:Nat) (v:Value) (n:Nat) (xs:List Value) (hown:w.ownsRow base e size v n xs) (hs:a.eval s = v)
 (cs:List Value) (hx:a.eval x = .slice (some ⟨w.heap.size,0,none⟩) 1 1) (hl:cs.length = size) (h1:∀u∈cs,u.oneCell' = true)
 (hn:n≤2097152) (hby:bytes≤4096) (hbase:base≤w.heap.size)
 (h:∀v' w',w'.ownsRow base e size v' (n+1) (xs++cs)→w.grownBy w' v.ownBlock→w.heap.size+1≤w'.heap.size→(v'.ownBlock = v.ownBlock∨v'.ownBlock = some (w.heap.size+1))→wpList P ops Q rest (a.put o.dst v') w'):wpList P ops Q (o :: rest) a (w.alloc (.cells cs.toArray e)):=by
 obtain ⟨ht,hi0,hzs,hsz⟩:=hE
 obtain ⟨i,hi,hz,hsize,hb⟩:=info_parts hi0
 have hbb:(n+1) * bytes≤2097153 * 4096:=Nat.mul_le_mul (by omega) hby
 refine wpList_append_own_at (w.alloc (.cells cs.toArray e)) hgd s x t ho base e i z size bytes ht hi hz hsize hb hzs hsz v n xs hs (hown.alloc _) ⟨w.heap.size,0,none⟩ 1 1 cs hx (by omega) ?_ h1 at6 (by omega) (by simp;omega) ?_
 ·intro j u hu
  rw [Addr.add]
  have hc:=cell_of_row (w.alloc (.cells cs.toArray e)) w.heap.size j cs.toArray e (0,0) (heap_alloc_new w _)
  split
  ·rename_i hj;subst hj;rw [hc];simpa using hu
  ·simp only [Nat.zero_add];rw [hc];simpa using hu
 ·intro v' w' hown' hg _ hat
  refine h v' w' hown' ⟨hg.os,hg.tape,hg.output,Nat.le_trans (by simp) hg.size,fun k hk hne=>?_⟩ avU (by simpa using hat)
  rw [hg.block k (by simp;omega) hne]
  exact Below.heap_alloc _ _ _ hk
end
theorem Sl.oJ {α:Type} [Dat α] {w:World} {B:Nat} {e:TypeId} {v:Value} {xs:List α} {ds:List Value} {F:List Nat} (h0:w.ownsRow B e (Dat.size α) v xs.length ds) (h:jo w xs ds F):∃A c G,v = .slice A xs.length c∧Sl w xs A c G:=by
 rcases h0 with ⟨hl,⟨rfl,hn⟩ | ⟨g,cap,cur,rfl,hb,hh,hle,hm,hcs,ht⟩⟩
 ·obtain rfl:xs = []:=List.eq_nil_of_length_eq_zero hn
  exact ⟨none,0,[],rfl,Sl.nil w none 0 (Nat.zero_le _)⟩
 ·have hg:g < w.heap.size:=by
   rcases Nat.lt_or_ge g w.heap.size with hlt | hge
   ·exact hlt
   ·rw [Array.getElem?_eq_none hge] at hh;cases hh
  refine ⟨_,cap,g :: F,rfl,⟨_,cap,F,ds,rfl,hle,hm,h,.inr ⟨g,0,rfl,rfl,hg,fun j u hu=>?_⟩⟩⟩
  rw [Nat.zero_add,cell_of_row w g j cur e (0,0) hh]
  have hj:=(List.getElem?_eq_some_iff.1 hu).1
  rw [← ht,List.getElem?_take] at hu
  split at hu
  ·simpa using hu
  ·cases hu
theorem Fv (w:World):∀(xs:List Int),(∀x∈xs,I64 x)→jo w xs (xs.map fun n=>.int .i64 n) []
 | [],_=>⟨rfl,rfl⟩
 | x :: xs,h=>⟨[.int .i64 x],_,[],[],rfl,rfl,jL w x (h x (List.mem_cons_self ..)),Fv w xs fun y hy=>h y (List.mem_cons_of_mem _ hy)⟩
theorem atB:(Tryz.prog.info? 3).map (fun i=>(i.zero,i.size,i.bytes)) = some (some (.int .i64 0),1,8):=by kernel_rfl
theorem adG:DL Tryz.prog 103 3 (.int .i64 0) 1 8:=⟨Tryz.underlying103,atB,rfl,by omega⟩
end Go.Proofs.YtnjibbpcafgglaaGreat
namespace Go.Proofs.YtnjibbpcafgglaaGreat
open Go.ChangeShapes Go.WideShapes Go.ChangeAt Go.RowKit
set_option linter.unusedVariables false
set_option linter.unusedSimpArgs false
def GX (a b:Int):Option Int:=if a < 0∨b < 0∨9223372036854775807 - b < a then none else some (a+b)
theorem abW {a b t:Int} (h:GX a b = some t) (ha:I64 a) (hb:I64 b):I64 t:=by
 unfold GX at h
 split at h
 ·cases h
 ·cases h
  unfold I64 at *
  omega
def GZ:List Int→Int→Option Int
 | [],s=>some s
 | x :: xs,s=>match GX s x with | none=>none | some m=>GZ xs m
theorem J9 (a b:Int) (w:World) (ha:I64 a) (hb:I64 b):Calls Tryz.prog 172 #[.int .i64 a,.int .i64 b] w fun e w'=>e = .returned (.tuple #[.int .i64 ((GX a b).getD 0),.bool (GX a b).isSome])∧Below w.heap.size w w':=by
 obtain ⟨ha0,ha1⟩:=ha
 obtain ⟨hb0,hb1⟩:=hb
 by_cases h1:a < 0
 ·have e:GX a b = none:=by unfold GX;rw [if_pos (by omega)]
  rw [e]
  go_enter Tryz.func172,Tryz.ntmps172
  go_wp2
  go_returns
  exact ⟨rfl,aj _⟩
 by_cases h2:b < 0
 ·have e:GX a b = none:=by unfold GX;rw [if_pos (by omega)]
  rw [e]
  go_enter Tryz.func172,Tryz.ntmps172
  go_wp2
  go_returns
  exact ⟨rfl,aj _⟩
 by_cases h3:9223372036854775807 - b < a
 ·have e:GX a b = none:=by unfold GX;rw [if_pos (by omega)]
  rw [e]
  go_enter Tryz.func172,Tryz.ntmps172
  go_wp2
  go_returns
  exact ⟨rfl,aj _⟩
 ·have e:GX a b = some (a+b):=by unfold GX;rw [if_neg (by omega)]
  rw [e]
  go_enter Tryz.func172,Tryz.ntmps172
  go_wp2
  go_returns
  exact ⟨rfl,aj _⟩
theorem oQ (a b:Int) (w:World) (ha:I64 a) (hb:I64 b):Calls Tryz.prog 165 #[.int .i64 a,.int .i64 b] w fun e w'=>e = .returned (.tuple #[.int .i64 ((GX a b).getD 0),.bool (GX a b).isSome])∧Below w.heap.size w w':=by
 obtain ⟨ha0,ha1⟩:=ha
 obtain ⟨hb0,hb1⟩:=hb
 by_cases h1:a < 0
 ·have e:GX a b = none:=by unfold GX;rw [if_pos (by omega)]
  rw [e]
  go_enter Tryz.func165,Tryz.ntmps165
  go_wp2
  go_returns
  exact ⟨rfl,aj _⟩
 by_cases h2:b < 0
 ·have e:GX a b = none:=by unfold GX;rw [if_pos (by omega)]
  rw [e]
  go_enter Tryz.func165,Tryz.ntmps165
  go_wp2
  go_returns
  exact ⟨rfl,aj _⟩
 by_cases h3:9223372036854775807 - b < a
 ·have e:GX a b = none:=by unfold GX;rw [if_pos (by omega)]
  rw [e]
  go_enter Tryz.func165,Tryz.ntmps165
  go_wp2
  go_returns
  exact ⟨rfl,aj _⟩
 ·have e:GX a b = some (a+b):=by unfold GX;rw [if_neg (by omega)]
  rw [e]
  go_enter Tryz.func165,Tryz.ntmps165
  go_wp2
  go_returns
  exact ⟨rfl,aj _⟩
set_option maxHeartbeats 400000 in
theorem acC (xs:List Int) (A:Option Addr) (n c:Nat) (F:List Nat) (w:World) (h:Sl w xs A c F) (hn:n = xs.length) (hl:(xs.length:Int)≤1048576) :
 Calls Tryz.prog 139 #[.slice A n c] w fun e w'=>e = .returned (.tuple #[.int .i64 ((GZ xs 0).getD 0),.bool (GZ xs 0).isSome])∧Below w.heap.size w w':=by
 subst hn
 go_enter Tryz.func139,Tryz.ntmps139
 go_wp2_with fail
 go_loopw [4,11] (fun x i wr=>∃(k:Nat) (s:Int),k≤xs.length∧i = .int .i64 k∧x = .int .i64 s∧I64 s∧Hid (GZ xs 0 = GZ (xs.drop k) s)∧Below w.heap.size w wr) (fun _ i _=>xs.length - (intOf i).toNat)
 case atStart=>exact ⟨0,0,Nat.zero_le _,rfl,rfl,⟨by decide,by decide⟩,rfl,aj _⟩
 case round =>
  obtain ⟨k,s,hk,rfl,rfl,hs,HS,hbl⟩:=hrel
  by_cases hlt:k < xs.length
  ·obtain ⟨b,o,ck,Fk,rfl,o9,hbs,hr,hsub,hc⟩:=(Sl.ext (w':=wr) (A:=A) (c:=c) h hbl).get hlt
   obtain ⟨hck,su,hI⟩:=hr
   subst hck su
   have q0:wr.cell? ⟨b,o+k,none⟩ = some (.int .i64 xs[k]):=by have:=hc 0 _ rfl;rwa [show o+(k * Dat.size Int+0) = o+k from by show o+(k * 1+0) = _;omega] at this
   clear hc
   have hdr:GZ (xs.drop k) s = GZ (xs[k] :: xs.drop (k+1)) s:=by rw [List.getElem_cons_drop]
   have hsI:=hs
   have hxI:=hI
   generalize hxk:xs[k] = y at *
   cases ha:GX s y with
   | none =>
     have hf:GZ xs 0 = none:=by rw [HS.out,hdr,GZ,ha]
     have HF:=Lib.hid hf
     clear hf hdr
     have HA:=Lib.hid ha
     clear ha
     go_wp2_with (go_at_call 172;refine (J9 s y _ hsI hxI).mono ?_;rw [HA.out];rintro e w2 ⟨rfl,hb2⟩)
     go_returns
     exact ⟨by rw [HF.out];rfl,ah hbl hb2⟩
   | some t =>
     have hf:GZ xs 0 = GZ (xs.drop (k+1)) t:=by rw [HS.out,hdr,GZ,ha]
     have HF:=Lib.hid hf
     have htI:=abW ha hsI hxI
     clear hf hdr
     have HA:=Lib.hid ha
     clear ha
     go_wp2_with (go_at_call 172;refine (J9 s y _ hsI hxI).mono ?_;rw [HA.out];rintro e w2 ⟨rfl,hb2⟩)
     exact ⟨⟨k+1,t,by omega,by go_num,rfl,htI,HF.out,ah hbl hb2⟩,by simp [intOf];omega⟩
  ·have hkl:k = xs.length:=by omega
   subst hkl
   have hf:GZ xs 0 = some s:=by rw [HS.out,List.drop_length];rfl
   have HF:=Lib.hid hf
   clear hf
   go_wp2
   go_returns
   exact ⟨by rw [HF.out];rfl,hbl⟩
set_option maxHeartbeats 400000 in
theorem acD (xs:List Int) (A:Option Addr) (n c:Nat) (F:List Nat) (w:World) (h:Sl w xs A c F) (hn:n = xs.length) (hl:(xs.length:Int)≤1048576) :
 Calls Tryz.prog 128 #[.slice A n c] w fun e w'=>e = .returned (.tuple #[.int .i64 ((GZ xs 0).getD 0),.bool (GZ xs 0).isSome])∧Below w.heap.size w w':=by
 subst hn
 go_enter Tryz.func128,Tryz.ntmps128
 go_wp2_with fail
 go_loopw [4,5] (fun x i wr=>∃(k:Nat) (s:Int),k≤xs.length∧i = .int .i64 k∧x = .int .i64 s∧I64 s∧Hid (GZ xs 0 = GZ (xs.drop k) s)∧Below w.heap.size w wr) (fun _ i _=>xs.length - (intOf i).toNat)
 case atStart=>exact ⟨0,0,Nat.zero_le _,rfl,rfl,⟨by decide,by decide⟩,rfl,aj _⟩
 case round =>
  obtain ⟨k,s,hk,rfl,rfl,hs,HS,hbl⟩:=hrel
  by_cases hlt:k < xs.length
  ·obtain ⟨b,o,ck,Fk,rfl,o9,hbs,hr,hsub,hc⟩:=(Sl.ext (w':=wr) (A:=A) (c:=c) h hbl).get hlt
   obtain ⟨hck,su,hI⟩:=hr
   subst hck su
   have q0:wr.cell? ⟨b,o+k,none⟩ = some (.int .i64 xs[k]):=by have:=hc 0 _ rfl;rwa [show o+(k * Dat.size Int+0) = o+k from by show o+(k * 1+0) = _;omega] at this
   clear hc
   have hdr:GZ (xs.drop k) s = GZ (xs[k] :: xs.drop (k+1)) s:=by rw [List.getElem_cons_drop]
   have hsI:=hs
   have hxI:=hI
   generalize hxk:xs[k] = y at *
   cases ha:GX s y with
   | none =>
     have hf:GZ xs 0 = none:=by rw [HS.out,hdr,GZ,ha]
     have HF:=Lib.hid hf
     clear hf hdr
     have HA:=Lib.hid ha
     clear ha
     go_wp2_with (go_at_call 165;refine (oQ s y _ hsI hxI).mono ?_;rw [HA.out];rintro e w2 ⟨rfl,hb2⟩)
     go_returns
     exact ⟨by rw [HF.out];rfl,ah hbl hb2⟩
   | some t =>
     have hf:GZ xs 0 = GZ (xs.drop (k+1)) t:=by rw [HS.out,hdr,GZ,ha]
     have HF:=Lib.hid hf
     have htI:=abW ha hsI hxI
     clear hf hdr
     have HA:=Lib.hid ha
     clear ha
     go_wp2_with (go_at_call 165;refine (oQ s y _ hsI hxI).mono ?_;rw [HA.out];rintro e w2 ⟨rfl,hb2⟩)
     exact ⟨⟨k+1,t,by omega,by go_num,rfl,htI,HF.out,ah hbl hb2⟩,by simp [intOf];omega⟩
  ·have hkl:k = xs.length:=by omega
   subst hkl
   have hf:GZ xs 0 = some s:=by rw [HS.out,List.drop_length];rfl
   have HF:=Lib.hid hf
   clear hf
   go_wp2
   go_returns
   exact ⟨by rw [HF.out];rfl,hbl⟩
end Go.Proofs.YtnjibbpcafgglaaGreat
namespace Go.Proofs.YtnjibbpcafgglaaGreat
open Go.ChangeShapes Go.WideShapes Go.ChangeAt Go.RowKit
set_option linter.unusedVariables false
set_option linter.unusedSimpArgs false
def vU (xs:List nI):Option (Int × Int) :=
 match GZ (xs.map nI.cpu) 0,GZ (xs.map nI.mem) 0 with
 | some a,some b=>some (a,b)
 | _,_=>none
def am8:Option (Int × Int)→Value
 | some (a,b)=>.tuple #[.int .i64 a,.int .i64 b,.bool true]
 | none=>.tuple #[.int .i64 0,.int .i64 0,.bool false]
def iv (xs:List Int):List Value:=xs.map fun n=>.int .i64 n
theorem ae7 {α:Type} (f:α→Int) (xs:List α) (k:Nat) (h:k < xs.length):iv ((xs.take (k+1)).map f) = iv ((xs.take k).map f)++[.int .i64 (f xs[k])]:=by
 unfold iv;rw [List.take_succ_eq_append_getElem h,List.map_append,List.map_append];rfl
theorem atC {α β:Type} (f:α→β) (xs:List α) (k:Nat) (h:k≤xs.length):((xs.take k).map f).length = k:=by simp;omega
theorem Sl.apG {w:World} {xs:List nI} {A:Option Addr} {c:Nat} {F:List Nat} (h:Sl w xs A c F):∀p∈xs,I64 p.cpu∧I64 p.mem∧I64 p.rank:=by
 intro p hp
 obtain ⟨k,hk,rfl⟩:=List.getElem_of_mem hp
 obtain ⟨b,o,ck,Fk,_,_,_,hr,_,_⟩:=h.get hk
 obtain ⟨gu,gy,jw,oh,nT,wG,fA,fB,jY,rfl,rfl,hname,dO,vg,hmem,BJ,mX,eG⟩:=dL hr
 exact ⟨vg,hmem,BJ⟩
set_option maxRecDepth 100000 in
set_option maxHeartbeats 1000000 in
theorem am9 (xs:List nI) (A:Option Addr) (n c:Nat) (F:List Nat) (w:World) (h:Sl w xs A c F) (hn:n = xs.length) (hl:(xs.length:Int)≤1048576) :
 Calls Tryz.prog 95 #[.slice A n c] w fun e w'=>e = .returned (am8 (vU xs))∧Below w.heap.size w w':=by
 subst hn
 have hI:=Lib.hid h.apG
 go_enter Tryz.func95,Tryz.ntmps95
 go_wp2_with fail
 go_loopw [5,6,17] (fun u v i wr=>∃(k:Nat),k≤xs.length∧i = .int .i64 k∧wr.ownsRow w.heap.size 3 1 u k (iv ((xs.take k).map nI.cpu))∧wr.ownsRow w.heap.size 3 1 v k (iv ((xs.take k).map nI.mem))∧DK u v∧Below w.heap.size w wr) (fun _ _ i _=>xs.length - (intOf i).toNat)
 case atStart =>
  refine ⟨0,Nat.zero_le _,rfl,?_,?_,?_,ak (ak (aj _) _) _⟩
  ·exact (World.ownsRow_made w #[] 0 (Nat.le_refl _) at6 rfl).alloc _
  ·have:=World.ownsRow_made (base:=w.heap.size) (e:=3) (size:=1) (w.alloc (.cells #[] 3)) #[] 0 (by simp) at6 rfl
   simpa [iv] using this
  ·right;simp [Value.ownBlock]
 case round =>
  obtain ⟨k,hk,rfl,hu,hv,hap,hbl⟩:=hrel
  have hlts:=hu.lt
  by_cases hlt:k < xs.length
  ·obtain ⟨b,o,ck,Fk,rfl,o9,hbs,hr,hsub,hc⟩:=(Sl.ext (w':=wr) (A:=A) (c:=c) h hbl).get hlt
   have hbw:=h.lt b o9
   obtain ⟨gu,gy,jw,oh,nT,wG,fA,fB,jY,hck,su,hname,dO,vg,hmem,BJ,mX,eG⟩:=dL hr
   subst hck
   have q0:wr.cell? ⟨b,o+k * 7,none⟩ = some (.string xs[k].name):=by exact hc 0 _ rfl
   have q1:wr.cell? ⟨b,o+k * 7+1,none⟩ = some (.slice gu xs[k].labels.length gy):=by rw [Nat.add_assoc];exact hc 1 _ rfl
   have q2:wr.cell? ⟨b,o+k * 7+2,none⟩ = some (.int .i64 xs[k].cpu):=by rw [Nat.add_assoc];exact hc 2 _ rfl
   have q3:wr.cell? ⟨b,o+k * 7+3,none⟩ = some (.int .i64 xs[k].mem):=by rw [Nat.add_assoc];exact hc 3 _ rfl
   have q4:wr.cell? ⟨b,o+k * 7+4,none⟩ = some (.int .i64 xs[k].rank):=by rw [Nat.add_assoc];exact hc 4 _ rfl
   have q5:wr.cell? ⟨b,o+k * 7+5,none⟩ = some (.slice oh xs[k].needs.length nT):=by rw [Nat.add_assoc];exact hc 5 _ rfl
   have q6:wr.cell? ⟨b,o+k * 7+6,none⟩ = some (.slice fA xs[k].tolerances.length fB):=by rw [Nat.add_assoc];exact hc 6 _ rfl
   clear hc
   go_wp2_with (first
    | (at_builtin
       refine uf adG (by rfl) _ _ (by rfl) _ _ _ _ _ (hu.alloc _) (by rfl) [.int .i64 xs[k].cpu] aue (by rfl) aub (by omega) (by omega) avK ?_
       intro u2 w2 hu2 hg2 hz2 anT
       have hne:some wr.heap.size≠u5.ownBlock:=by intro e;have:=hu.lt _ e.symm;omega
       have p3:w2.cell? ⟨wr.heap.size,3,none⟩ = some (.int .i64 xs[k].mem):=hg2.cell awG hne
       have hb2:Below w.heap.size w w2:=lS (hu.alloc _) hg2 (ak hbl _) avK
       have hv2:=(hv.alloc _).kept hg2 hap.symm
       have hap2:=hap.grow (N:=_) hv (by simp;omega) anT)
    | (at_builtin
       refine uf adG (by rfl) _ _ (by rfl) _ _ _ _ _ hv2 (by rfl) [.int .i64 xs[k].mem] aue (by rfl) aub (by omega) (by omega) (hb2.size) ?_
       intro v2 w3 hv3 hg3 hz3 hat3
       have hu3:=hu2.kept hg3 hap2
       have hap3:DK v2 u2:=hap2.symm.grow (N:=_) hu2 (by omega) hat3
       have hb3:=lS hv2 hg3 hb2 hb2.size))
   refine ⟨⟨k+1,by omega,by go_num,by rw [ae7 _ _ _ hlt];exact hu3,by rw [ae7 _ _ _ hlt];exact hv3,hap3.symm,hb3⟩,by simp [intOf];omega⟩
  ·have hkl:k = xs.length:=by omega
   subst hkl
   rw [List.take_length] at hu hv
   obtain ⟨Au,cu,Gu,rfl,hsu⟩:=Sl.oJ (xs:=xs.map nI.cpu) (by rw [List.length_map];exact hu) (Fv wr _ (by intro y hy;obtain ⟨p,hp,rfl⟩:=List.mem_map.1 hy;exact (hI.out p hp).1))
   obtain ⟨Av,cv,Gv,rfl,hsv⟩:=Sl.oJ (xs:=xs.map nI.mem) (by rw [List.length_map];exact hv) (Fv wr _ (by intro y hy;obtain ⟨p,hp,rfl⟩:=List.mem_map.1 hy;exact (hI.out p hp).2.1))
   clear hu hv hap
   rcases hr1:GZ (xs.map nI.cpu) 0 with _ | a <;> rcases hr2:GZ (xs.map nI.mem) 0 with _ | b
   all_goals
    have hfin:vU xs = _:=(by unfold vU;rw [hr1,hr2])
    have HF:=Lib.hid hfin
    have R1:=Lib.hid hr1
    have R2:=Lib.hid hr2
    clear hr1 hr2 hfin
    go_wp2_with fail
    refine (acC (xs.map nI.cpu) Au _ cu Gu _ hsu (by simp) awH).mono ?_
    rw [R1.out]
    rintro e w2 ⟨rfl,hb2⟩
    go_wp2_with fail
    refine (acC (xs.map nI.mem) Av _ cv Gv _ (hsv.ext hb2) (by simp) awH).mono ?_
    rw [R2.out]
    rintro e w3 ⟨rfl,hb3⟩
    go_wp2
    go_returns
    exact ⟨by rw [HF.out];rfl,ah (ah hbl hb2) hb3⟩
set_option maxRecDepth 100000 in
set_option maxHeartbeats 1000000 in
theorem ad8 (xs:List nI) (A:Option Addr) (n c:Nat) (F:List Nat) (w:World) (h:Sl w xs A c F) (hn:n = xs.length) (hl:(xs.length:Int)≤1048576) :
 Calls Tryz.prog 85 #[.slice A n c] w fun e w'=>e = .returned (am8 (vU xs))∧Below w.heap.size w w':=by
 subst hn
 have hI:=Lib.hid h.apG
 go_enter Tryz.func85,Tryz.ntmps85
 go_wp2_with fail
 go_loopw [5,6,7] (fun u v i wr=>∃(k:Nat),k≤xs.length∧i = .int .i64 k∧wr.ownsRow w.heap.size 3 1 u k (iv ((xs.take k).map nI.cpu))∧wr.ownsRow w.heap.size 3 1 v k (iv ((xs.take k).map nI.mem))∧DK u v∧Below w.heap.size w wr) (fun _ _ i _=>xs.length - (intOf i).toNat)
 case atStart =>
  refine ⟨0,Nat.zero_le _,rfl,?_,?_,?_,ak (ak (aj _) _) _⟩
  ·exact (World.ownsRow_made w #[] 0 (Nat.le_refl _) at6 rfl).alloc _
  ·have:=World.ownsRow_made (base:=w.heap.size) (e:=3) (size:=1) (w.alloc (.cells #[] 3)) #[] 0 (by simp) at6 rfl
   simpa [iv] using this
  ·right;simp [Value.ownBlock]
 case round =>
  obtain ⟨k,hk,rfl,hu,hv,hap,hbl⟩:=hrel
  have hlts:=hu.lt
  by_cases hlt:k < xs.length
  ·obtain ⟨b,o,ck,Fk,rfl,o9,hbs,hr,hsub,hc⟩:=(Sl.ext (w':=wr) (A:=A) (c:=c) h hbl).get hlt
   have hbw:=h.lt b o9
   obtain ⟨gu,gy,jw,oh,nT,wG,fA,fB,jY,hck,su,hname,dO,vg,hmem,BJ,mX,eG⟩:=dL hr
   subst hck
   have q0:wr.cell? ⟨b,o+k * 7,none⟩ = some (.string xs[k].name):=by exact hc 0 _ rfl
   have q1:wr.cell? ⟨b,o+k * 7+1,none⟩ = some (.slice gu xs[k].labels.length gy):=by rw [Nat.add_assoc];exact hc 1 _ rfl
   have q2:wr.cell? ⟨b,o+k * 7+2,none⟩ = some (.int .i64 xs[k].cpu):=by rw [Nat.add_assoc];exact hc 2 _ rfl
   have q3:wr.cell? ⟨b,o+k * 7+3,none⟩ = some (.int .i64 xs[k].mem):=by rw [Nat.add_assoc];exact hc 3 _ rfl
   have q4:wr.cell? ⟨b,o+k * 7+4,none⟩ = some (.int .i64 xs[k].rank):=by rw [Nat.add_assoc];exact hc 4 _ rfl
   have q5:wr.cell? ⟨b,o+k * 7+5,none⟩ = some (.slice oh xs[k].needs.length nT):=by rw [Nat.add_assoc];exact hc 5 _ rfl
   have q6:wr.cell? ⟨b,o+k * 7+6,none⟩ = some (.slice fA xs[k].tolerances.length fB):=by rw [Nat.add_assoc];exact hc 6 _ rfl
   clear hc
   go_wp2_with (first
    | (at_builtin
       refine uf adG (by rfl) _ _ (by rfl) _ _ _ _ _ hu (by rfl) [.int .i64 xs[k].cpu] aue (by rfl) aub (by omega) (by omega) (hbl.size) ?_
       intro u2 w2 hu2 hg2 hz2 anT
       have hne:some b≠u5.ownBlock:=by intro e;have:=hu.lt _ e.symm;omega
       replace q3:=hg2.cell q3 hne
       have hb2:Below w.heap.size w w2:=lS hu hg2 hbl hbl.size
       have hv2:=hv.kept hg2 hap.symm
       have hap2:=hap.grow (N:=_) hv (by omega) anT)
    | (at_builtin
       refine uf adG (by rfl) _ _ (by rfl) _ _ _ _ _ hv2 (by rfl) [.int .i64 xs[k].mem] aue (by rfl) aub (by omega) (by omega) (hb2.size) ?_
       intro v2 w3 hv3 hg3 hz3 hat3
       have hu3:=hu2.kept hg3 hap2
       have hap3:DK v2 u2:=hap2.symm.grow (N:=_) hu2 (by omega) hat3
       have hb3:=lS hv2 hg3 hb2 hb2.size))
   refine ⟨⟨k+1,by omega,by go_num,by rw [ae7 _ _ _ hlt];exact hu3,by rw [ae7 _ _ _ hlt];exact hv3,hap3.symm,hb3⟩,by simp [intOf];omega⟩
  ·have hkl:k = xs.length:=by omega
   subst hkl
   rw [List.take_length] at hu hv
   obtain ⟨Au,cu,Gu,rfl,hsu⟩:=Sl.oJ (xs:=xs.map nI.cpu) (by rw [List.length_map];exact hu) (Fv wr _ (by intro y hy;obtain ⟨p,hp,rfl⟩:=List.mem_map.1 hy;exact (hI.out p hp).1))
   obtain ⟨Av,cv,Gv,rfl,hsv⟩:=Sl.oJ (xs:=xs.map nI.mem) (by rw [List.length_map];exact hv) (Fv wr _ (by intro y hy;obtain ⟨p,hp,rfl⟩:=List.mem_map.1 hy;exact (hI.out p hp).2.1))
   clear hu hv hap
   rcases hr1:GZ (xs.map nI.cpu) 0 with _ | a <;> rcases hr2:GZ (xs.map nI.mem) 0 with _ | b
   all_goals
    have hfin:vU xs = _:=(by unfold vU;rw [hr1,hr2])
    have HF:=Lib.hid hfin
    have R1:=Lib.hid hr1
    have R2:=Lib.hid hr2
    clear hr1 hr2 hfin
    go_wp2_with fail
    refine (acD (xs.map nI.cpu) Au _ cu Gu _ hsu (by simp) awH).mono ?_
    rw [R1.out]
    rintro e w2 ⟨rfl,hb2⟩
    go_wp2_with fail
    refine (acD (xs.map nI.mem) Av _ cv Gv _ (hsv.ext hb2) (by simp) awH).mono ?_
    rw [R2.out]
    rintro e w3 ⟨rfl,hb3⟩
    go_wp2
    go_returns
    exact ⟨by rw [HF.out];rfl,ah (ah hbl hb2) hb3⟩
end Go.Proofs.YtnjibbpcafgglaaGreat
