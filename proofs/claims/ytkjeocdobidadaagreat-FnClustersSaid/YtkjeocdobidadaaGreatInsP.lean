/- A new element put into a row of the call's own, by two appends and one more: rows that are appended to in a region of drawn order. No condition. -/
import Derived.Test.YtkjeocdobidadaaGreatDeed
import Derived.Test.YtkjeocdobidadaaGreatOrdP
import Derived.Test.YtkjeocdobidadaaGreatData
import Derived.Test.YtkjeocdobidadaaGreatKit
namespace Go.Proofs.YtkjeocdobidadaaGreat
open Go.ChangeShapes Go.WideShapes Go.ChangeAt Go.RowKit
set_option linter.unusedVariables false
set_option linter.unusedSimpArgs false
set_option maxHeartbeats 1000000
set_option maxRecDepth 100000
theorem qQ {P:Program} {t e:TypeId} {z:Value} {size bytes:Nat} (hE:DL P t e z size bytes) {o:Oper} {a:Act} {K:Act→World→Prop} {Q:Exit→Act→World→Prop} (s x:Operand)
 (ho:o.op = .call { callee:=.builtin .append,args:=#[s,x],argTypes:=#[t,t] })
 (w:World) (base:Nat) (v:Value) (n:Nat) (xs:List Value) (hown:w.ownsRow base e size v n xs) (hs:a.eval s = v)
 (ad:Addr) (m c:Nat) (news:List Value) (hx:a.eval x = .slice (some ad) m c) (hl:news.length = m * size) (hnews:∀j u,news[j]? = some u→w.cell? (ad.add j) = some u) (h1:∀u∈news,u.oneCell' = true)
 (hn:n+m≤2097152) (hby:bytes≤4096) (hbase:base≤w.heap.size)
 (h:∀v' w',w'.ownsRow base e size v' (n+m) (xs++news)→w.grownBy w' v.ownBlock→(v'.ownBlock = v.ownBlock∨v'.ownBlock = some w.heap.size)→K (a.put o.dst v') w'):o.wp P a w K Q:=by
 obtain ⟨ht,hi0,hzs,hsz⟩:=hE;obtain ⟨i,hi,hz,hsize,hb⟩:=info_parts hi0;have hbb:(n+m) * bytes≤2097152 * 4096:=Nat.mul_le_mul O' hby;obtain ⟨v',w',hr,h2,h3,h4,h5⟩:=run_append_own_at (P:=P) w base t o.type e i z size bytes ht hi hz hsize hb hzs hsz v n xs hown ad m c news hl hnews h1 at6 O' hbase;unfold Oper.wp execOp;simp only [ho,resolve,invoke,builtin,Sem.run_bind,Sem.run_pure,Result.andThen_ok,List.map_toArray,List.map_cons,List.map_nil,hs,hx,hr];exact h v' w' h2 h3 h5
theorem xW {P:Program} {t e:TypeId} {z:Value} {size bytes:Nat} (hE:DL P t e z size bytes) {ops:Array Oper} {rest:List Oper} {o:Oper} {a:Act} {Q:Exit→Act→World→Prop} (hgd:o.guard = none) (s x:Operand)
 (ho:o.op = .call { callee:=.builtin .append,args:=#[s,x],argTypes:=#[t,t] })
 (w:World) (base:Nat) (v:Value) (n:Nat) (xs:List Value) (hown:w.ownsRow base e size v n xs) (hs:a.eval s = v)
 (ad:Addr) (m c:Nat) (news:List Value) (hx:a.eval x = .slice (some ad) m c) (hl:news.length = m * size) (hnews:∀j u,news[j]? = some u→w.cell? (ad.add j) = some u) (h1:∀u∈news,u.oneCell' = true)
 (hn:n+m≤2097152) (hby:bytes≤4096) (hbase:base≤w.heap.size)
 (h:∀v' w',w'.ownsRow base e size v' (n+m) (xs++news)→w.grownBy w' v.ownBlock→(v'.ownBlock = v.ownBlock∨v'.ownBlock = some w.heap.size)→wpList P ops Q rest (a.put o.dst v') w'):wpList P ops Q (o :: rest) a w :=
 wpList_plain hgd fun K hK=>qQ hE s x ho w base v n xs hown hs ad m c news hx hl hnews h1 hn hby hbase fun v' w' h1 h2 h3=>hK _ _ (h v' w' h1 h2 h3)
theorem D9 (W:World) (e:TypeId) (size N:Nat) (hN:W.heap.size = N):(W.alloc (.cells #[] e)).ownsRow N e size (.slice (some ⟨N,0,none⟩) 0 0) 0 []:=by
 subst hN;exact World.ownsRow_made W #[] 0 (Nat.le_refl _) (Nat.zero_le _) S'
theorem DI (W:World) (e:TypeId) (elt:List Value) (N:Nat) (hN:W.heap.size = N):∀q u,elt[q]? = some u→(W.alloc (.cells elt.toArray e)).cell? ((⟨N,0,none⟩:Addr).add q) = some u:=by
 subst hN;intro q u hu;rw [Addr.add_lit,Nat.zero_add,cell_of_row _ _ _ _ _ _ (heap_alloc_new W _)];simpa using hu
theorem wW {w:World} {B e size n:Nat} {v:Value} {xs:List Value} (h:w.ownsRow B e size v n xs) (hn:0 < n):∃g cap,v = .slice (some ⟨g,0,none⟩) n cap∧B≤g∧n≤cap∧g < w.heap.size:=by
 rcases h.2 with h | ⟨g,cap,cur,h1,h2,h3,h4,h5⟩
 ·omega
 ·refine ⟨g,cap,h1,h2,h4,?_⟩;rcases Nat.lt_or_ge g w.heap.size with hlt | hge
  ·exact hlt
  ·rw [Array.getElem?_eq_none hge] at h3;cases h3
theorem IE {w:World} {B e size n g cap:Nat} {xs:List Value} (h:w.ownsRow B e size (.slice (some ⟨g,0,none⟩) n cap) n xs):B≤g∧g < w.heap.size∧n≤cap∧∀j u,xs[j]? = some u→w.cell? ⟨g,j,none⟩ = some u:=by
 rcases h.2 with ⟨h,_⟩ | ⟨g',cap',cur,h1,h2,h3,h4,h5⟩
 ·cases h
 ·simp only [Value.slice.injEq,Option.some.injEq,Addr.mk.injEq,and_true,true_and] at h1;obtain ⟨rfl,rfl⟩:=h1;refine ⟨h2,?_,h4,fun j u hu=>?_⟩
  ·rcases Nat.lt_or_ge g w.heap.size with hlt | hge
   ·exact hlt
   ·rw [Array.getElem?_eq_none hge] at h3;cases h3
  ·rw [cell_of_row w g j cur e (0,0) h3];have hj:=(List.getElem?_eq_some_iff.1 hu).1;rw [← h5.2.2,List.getElem?_take] at hu;split at hu
   ·simpa using hu
   ·cases hu
theorem PY {β:Type} {lt:β→β→Bool} {y:β} : ∀(s1 s2:List β),(∀x∈s1,lt y x = false)→(s2 = []∨∃x s',s2 = x :: s'∧lt y x = true)→OM lt y (s1++s2) = s1++y :: s2
 | [],s2,_,h2=>by
   rcases h2 with rfl | ⟨x,s',rfl,h⟩
   ·rfl
   ·simp only [List.nil_append];rw [OM,if_pos h]
 | x :: s1,s2,h1,h2=>by
   have h0:=h1 x (List.mem_cons_self ..);simp only [List.cons_append];rw [OM,if_neg (by rw [h0];simp),PY s1 s2 (fun z hz=>h1 z (List.mem_cons_of_mem _ hz)) h2]
def GX (a b:Int):Option Int:=if a < 0∨b < 0∨9223372036854775807 - b < a then none else some (a+b)
theorem abW {a b t:Int} (h:GX a b = some t) (ha:I64 a) (hb:I64 b):I64 t:=by
 unfold GX at h;split at h
 ·cases h
 ·cases h
  unfold I64 at *;omega
def GZ:List Int→Int→Option Int
 | [],s=>some s
 | x :: xs,s=>match GX s x with | none=>none | some m=>GZ xs m
theorem J9 (a b:Int) (w:World) (ha:I64 a) (hb:I64 b):Calls Tryz.prog 135 #[.int .i64 a,.int .i64 b] w fun e w'=>e = .returned (.tuple #[.int .i64 ((GX a b).getD 0),.bool (GX a b).isSome])∧Below w.heap.size w w':=by
 obtain ⟨ha0,ha1⟩:=ha;obtain ⟨hb0,hb1⟩:=hb;by_cases h1:a < 0
 ·exact Zac1
 by_cases h2:b < 0
 ·exact Zac1
 by_cases h3:9223372036854775807 - b < a
 ·exact Zac1
 ·have e:GX a b = some (a+b):=by unfold GX;rw [if_neg O']
  rw [e];go_enter Tryz.func135,Tryz.ntmps135;go_wp2;go_returns
  exact ⟨rfl,aj _⟩
theorem oQ (a b:Int) (w:World) (ha:I64 a) (hb:I64 b):Calls Tryz.prog 182 #[.int .i64 a,.int .i64 b] w fun e w'=>e = .returned (.tuple #[.int .i64 ((GX a b).getD 0),.bool (GX a b).isSome])∧Below w.heap.size w w':=by
 obtain ⟨ha0,ha1⟩:=ha;obtain ⟨hb0,hb1⟩:=hb;by_cases h1:a < 0
 ·exact Zac2
 by_cases h2:b < 0
 ·exact Zac2
 by_cases h3:9223372036854775807 - b < a
 ·exact Zac2
 ·have e:GX a b = some (a+b):=by unfold GX;rw [if_neg O']
  rw [e];go_enter Tryz.func182,Tryz.ntmps182;go_wp2;go_returns
  exact ⟨rfl,aj _⟩
theorem acC (xs:List Int) (A:Option Addr) (n c:Nat) (F:List Nat) (w:World) (h:Sl w xs A c F) (hn:n = xs.length) (hl:(xs.length:Int)≤1048576) :
 Calls Tryz.prog 107 #[.slice A n c] w fun e w'=>e = .returned (.tuple #[.int .i64 ((GZ xs 0).getD 0),.bool (GZ xs 0).isSome])∧Below w.heap.size w w':=by
 subst hn;go_enter Tryz.func107,Tryz.ntmps107;go_wp2_with fail
 go_loopw [4,11] (fun x i wr=>∃(k:Nat) (s:Int),k≤xs.length∧i = .int .i64 k∧x = .int .i64 s∧I64 s∧Hid (GZ xs 0 = GZ (xs.drop k) s)∧Below w.heap.size w wr) (fun _ i _=>xs.length - (intOf i).toNat)
 case atStart=>exact ⟨0,0,Nat.zero_le _,rfl,rfl,⟨by decide,by decide⟩,rfl,aj _⟩
 case round =>
  obtain ⟨k,s,hk,rfl,rfl,hs,HS,hbl⟩:=hrel;by_cases hlt:k < xs.length
  ·obtain ⟨b,o,ck,Fk,rfl,o9,hbs,hr,hsub,hc⟩:=(Sl.ext (w':=wr) (A:=A) (c:=c) h hbl).get hlt;obtain ⟨hck,su,hI⟩:=hr;subst hck su;have q0:wr.cell? ⟨b,o+k,none⟩ = some (.int .i64 xs[k]):=(by have:=hc 0 _ rfl;rwa [show o+(k * Dat.size Int+0) = o+k from by show o+(k * 1+0) = _;omega] at this);clear hc;have hdr:GZ (xs.drop k) s = GZ (xs[k] :: xs.drop (k+1)) s:=(by rw [List.getElem_cons_drop]);have hsI:=hs;have hxI:=hI;generalize hxk:xs[k] = y at *;cases ha:GX s y with
   | none =>
     have hf:GZ xs 0 = none:=(by rw [HS.out,hdr,GZ,ha]);have HF:=I' hf;clear hf hdr;have HA:=I' ha;clear ha;go_wp2_with (go_at_call 135;refine (J9 s y _ hsI hxI).mono ?_;rw [HA.out];rintro e w2 ⟨rfl,hb2⟩)
     go_returns
     exact ⟨by rw [HF.out];rfl,ah hbl hb2⟩
   | some t =>
     have hf:GZ xs 0 = GZ (xs.drop (k+1)) t:=(by rw [HS.out,hdr,GZ,ha]);have HF:=I' hf;have htI:=abW ha hsI hxI;clear hf hdr;have HA:=I' ha;clear ha;go_wp2_with (go_at_call 135;refine (J9 s y _ hsI hxI).mono ?_;rw [HA.out];rintro e w2 ⟨rfl,hb2⟩)
     exact ⟨⟨k+1,t,O',N',rfl,htI,HF.out,ah hbl hb2⟩,by simp [intOf];omega⟩
  ·exact Zadi
theorem acD (xs:List Int) (A:Option Addr) (n c:Nat) (F:List Nat) (w:World) (h:Sl w xs A c F) (hn:n = xs.length) (hl:(xs.length:Int)≤1048576) :
 Calls Tryz.prog 188 #[.slice A n c] w fun e w'=>e = .returned (.tuple #[.int .i64 ((GZ xs 0).getD 0),.bool (GZ xs 0).isSome])∧Below w.heap.size w w':=by
 subst hn;go_enter Tryz.func188,Tryz.ntmps188;go_wp2_with fail
 go_loopw [4,5] (fun x i wr=>∃(k:Nat) (s:Int),k≤xs.length∧i = .int .i64 k∧x = .int .i64 s∧I64 s∧Hid (GZ xs 0 = GZ (xs.drop k) s)∧Below w.heap.size w wr) (fun _ i _=>xs.length - (intOf i).toNat)
 case atStart=>exact ⟨0,0,Nat.zero_le _,rfl,rfl,⟨by decide,by decide⟩,rfl,aj _⟩
 case round =>
  obtain ⟨k,s,hk,rfl,rfl,hs,HS,hbl⟩:=hrel;by_cases hlt:k < xs.length
  ·obtain ⟨b,o,ck,Fk,rfl,o9,hbs,hr,hsub,hc⟩:=(Sl.ext (w':=wr) (A:=A) (c:=c) h hbl).get hlt;obtain ⟨hck,su,hI⟩:=hr;subst hck su;have q0:wr.cell? ⟨b,o+k,none⟩ = some (.int .i64 xs[k]):=(by have:=hc 0 _ rfl;rwa [show o+(k * Dat.size Int+0) = o+k from by show o+(k * 1+0) = _;omega] at this);clear hc;have hdr:GZ (xs.drop k) s = GZ (xs[k] :: xs.drop (k+1)) s:=(by rw [List.getElem_cons_drop]);have hsI:=hs;have hxI:=hI;generalize hxk:xs[k] = y at *;cases ha:GX s y with
   | none =>
     have hf:GZ xs 0 = none:=(by rw [HS.out,hdr,GZ,ha]);have HF:=I' hf;clear hf hdr;have HA:=I' ha;clear ha;go_wp2_with (go_at_call 182;refine (oQ s y _ hsI hxI).mono ?_;rw [HA.out];rintro e w2 ⟨rfl,hb2⟩)
     go_returns
     exact ⟨by rw [HF.out];rfl,ah hbl hb2⟩
   | some t =>
     have hf:GZ xs 0 = GZ (xs.drop (k+1)) t:=(by rw [HS.out,hdr,GZ,ha]);have HF:=I' hf;have htI:=abW ha hsI hxI;clear hf hdr;have HA:=I' ha;clear ha;go_wp2_with (go_at_call 182;refine (oQ s y _ hsI hxI).mono ?_;rw [HA.out];rintro e w2 ⟨rfl,hb2⟩)
     exact ⟨⟨k+1,t,O',N',rfl,htI,HF.out,ah hbl hb2⟩,by simp [intOf];omega⟩
  ·exact Zadi
def vU (xs:List nI):Option (Int × Int) :=
 match GZ (xs.map nI.cpu) 0,GZ (xs.map nI.mem) 0 with
 | some a,some b=>some (a,b)
 | _,_=>none
def am8:Option (Int × Int)→Value
 | some (a,b)=>.tuple #[.int .i64 a,.int .i64 b,.bool true]
 | none=>.tuple #[.int .i64 0,.int .i64 0,.bool false]
def iv (xs:List Int):List Value:=xs.map fun n=>.int .i64 n
theorem ae7 {α:Type} (f:α→Int) (xs:List α) (k:Nat) (h:k < xs.length):iv ((xs.take (k+1)).map f) = iv ((xs.take k).map f)++[.int .i64 (f xs[k])]:=by
 unfold iv;rw [List.take_succ_eq_append_getElem h,List.map_append,List.map_append];rfl
theorem Sl.apG {w:World} {xs:List nI} {A:Option Addr} {c:Nat} {F:List Nat} (h:Sl w xs A c F):∀p∈xs,I64 p.cpu∧I64 p.mem∧I64 p.rank:=by
 intro p hp;obtain ⟨k,hk,rfl⟩:=List.getElem_of_mem hp;obtain ⟨b,o,ck,Fk,_,_,_,hr,_,_⟩:=h.get hk;obtain ⟨gu,gy,jw,oh,nT,wG,fA,fB,jY,rfl,rfl,hname,dO,vg,hmem,BJ,mX,eG⟩:=dL hr;exact ⟨vg,hmem,BJ⟩
theorem am9 (xs:List nI) (A:Option Addr) (n c:Nat) (F:List Nat) (w:World) (h:Sl w xs A c F) (hn:n = xs.length) (hl:(xs.length:Int)≤1048576) :
 Calls Tryz.prog 57 #[.slice A n c] w fun e w'=>e = .returned (am8 (vU xs))∧Below w.heap.size w w':=by
 subst hn;have hI:=I' h.apG;go_enter Tryz.func57,Tryz.ntmps57;go_wp2_with fail
 go_loopw [5,6,17] (fun u v i wr=>∃(k:Nat),k≤xs.length∧i = .int .i64 k∧wr.ownsRow w.heap.size 3 1 u k (iv ((xs.take k).map nI.cpu))∧wr.ownsRow w.heap.size 3 1 v k (iv ((xs.take k).map nI.mem))∧DK u v∧Below w.heap.size w wr) (fun _ _ i _=>xs.length - (intOf i).toNat)
 case atStart =>exact Zacx
 case round =>
  obtain ⟨k,hk,rfl,hu,hv,hap,hbl⟩:=hrel;have hlts:=hu.lt;by_cases hlt:k < xs.length
  ·obtain ⟨b,o,ck,Fk,rfl,o9,hbs,hr,hsub,hc⟩:=(Sl.ext (w':=wr) (A:=A) (c:=c) h hbl).get hlt;have hbw:=h.lt b o9;obtain ⟨gu,gy,jw,oh,nT,wG,fA,fB,jY,hck,su,hname,dO,vg,hmem,BJ,mX,eG⟩:=dL hr;subst hck;have q0:wr.cell? ⟨b,o+k * 7,none⟩ = some (.string xs[k].name):=(by exact hc 0 _ rfl);have q1:wr.cell? ⟨b,o+k * 7+1,none⟩ = some (.slice gu xs[k].labels.length gy):=(by rw [Nat.add_assoc];exact hc 1 _ rfl);have q2:wr.cell? ⟨b,o+k * 7+2,none⟩ = some (.int .i64 xs[k].cpu):=(by rw [Nat.add_assoc];exact hc 2 _ rfl);have q3:wr.cell? ⟨b,o+k * 7+3,none⟩ = some (.int .i64 xs[k].mem):=(by rw [Nat.add_assoc];exact hc 3 _ rfl);have q4:wr.cell? ⟨b,o+k * 7+4,none⟩ = some (.int .i64 xs[k].rank):=(by rw [Nat.add_assoc];exact hc 4 _ rfl);have q5:wr.cell? ⟨b,o+k * 7+5,none⟩ = some (.slice oh xs[k].needs.length nT):=(by rw [Nat.add_assoc];exact hc 5 _ rfl);have q6:wr.cell? ⟨b,o+k * 7+6,none⟩ = some (.slice fA xs[k].tolerances.length fB):=(by rw [Nat.add_assoc];exact hc 6 _ rfl);clear hc
   go_wp2_with (first
    | (at_builtin
       refine uf adG J' _ _ J' _ _ _ _ _ (hu.alloc _) J' [.int .i64 xs[k].cpu] aue J' aub O' O' avK ?_;intro u2 w2 hu2 hg2 hz2 anT;have hne:some wr.heap.size≠u5.ownBlock:=(by intro e;have:=hu.lt _ e.symm;omega);have p3:w2.cell? ⟨wr.heap.size,3,none⟩ = some (.int .i64 xs[k].mem):=hg2.cell awG hne;have hb2:Below w.heap.size w w2:=lS (hu.alloc _) hg2 (ak hbl _) avK;have hv2:=(hv.alloc _).kept hg2 hap.symm
       have hap2:=hap.grow (N:=_) hv (by simp;omega) anT)
    | (at_builtin
       refine uf adG J' _ _ J' _ _ _ _ _ hv2 J' [.int .i64 xs[k].mem] aue J' aub O' O' (hb2.size) ?_;intro v2 w3 hv3 hg3 hz3 hat3;have hu3:=hu2.kept hg3 hap2;have hap3:DK v2 u2:=hap2.symm.grow (N:=_) hu2 O' hat3
       have hb3:=lS hv2 hg3 hb2 hb2.size))
   exact Zaeb
  ·have hkl:k = xs.length:=O';subst hkl;rw [List.take_length] at hu hv;obtain ⟨Au,cu,Gu,rfl,hsu⟩:=Sl.oJ (xs:=xs.map nI.cpu) (by rw [List.length_map];exact hu) (Fv wr _ (by intro y hy;obtain ⟨p,hp,rfl⟩:=List.mem_map.1 hy;exact (hI.out p hp).1));obtain ⟨Av,cv,Gv,rfl,hsv⟩:=Sl.oJ (xs:=xs.map nI.mem) (by rw [List.length_map];exact hv) (Fv wr _ (by intro y hy;obtain ⟨p,hp,rfl⟩:=List.mem_map.1 hy;exact (hI.out p hp).2.1));clear hu hv hap;rcases hr1:GZ (xs.map nI.cpu) 0 with _ | a <;> rcases hr2:GZ (xs.map nI.mem) 0 with _ | b
   all_goals
    have hfin:vU xs = _:=(by unfold vU;rw [hr1,hr2]);have HF:=I' hfin;have R1:=I' hr1;have R2:=I' hr2;clear hr1 hr2 hfin;go_wp2_with fail
    refine (acC (xs.map nI.cpu) Au _ cu Gu _ hsu S' awH).mono ?_;rw [R1.out];rintro e w2 ⟨rfl,hb2⟩;go_wp2_with fail
    refine (acC (xs.map nI.mem) Av _ cv Gv _ (hsv.ext hb2) S' awH).mono ?_;rw [R2.out];rintro e w3 ⟨rfl,hb3⟩;go_wp2;go_returns
    exact ⟨by rw [HF.out];rfl,ah (ah hbl hb2) hb3⟩
theorem ad8 (xs:List nI) (A:Option Addr) (n c:Nat) (F:List Nat) (w:World) (h:Sl w xs A c F) (hn:n = xs.length) (hl:(xs.length:Int)≤1048576) :
 Calls Tryz.prog 137 #[.slice A n c] w fun e w'=>e = .returned (am8 (vU xs))∧Below w.heap.size w w':=by
 subst hn;have hI:=I' h.apG;go_enter Tryz.func137,Tryz.ntmps137;go_wp2_with fail
 go_loopw [5,6,7] (fun u v i wr=>∃(k:Nat),k≤xs.length∧i = .int .i64 k∧wr.ownsRow w.heap.size 3 1 u k (iv ((xs.take k).map nI.cpu))∧wr.ownsRow w.heap.size 3 1 v k (iv ((xs.take k).map nI.mem))∧DK u v∧Below w.heap.size w wr) (fun _ _ i _=>xs.length - (intOf i).toNat)
 case atStart =>exact Zacx
 case round =>
  obtain ⟨k,hk,rfl,hu,hv,hap,hbl⟩:=hrel;have hlts:=hu.lt;by_cases hlt:k < xs.length
  ·obtain ⟨b,o,ck,Fk,rfl,o9,hbs,hr,hsub,hc⟩:=(Sl.ext (w':=wr) (A:=A) (c:=c) h hbl).get hlt;have hbw:=h.lt b o9;obtain ⟨gu,gy,jw,oh,nT,wG,fA,fB,jY,hck,su,hname,dO,vg,hmem,BJ,mX,eG⟩:=dL hr;subst hck;have q0:wr.cell? ⟨b,o+k * 7,none⟩ = some (.string xs[k].name):=(by exact hc 0 _ rfl);have q1:wr.cell? ⟨b,o+k * 7+1,none⟩ = some (.slice gu xs[k].labels.length gy):=(by rw [Nat.add_assoc];exact hc 1 _ rfl);have q2:wr.cell? ⟨b,o+k * 7+2,none⟩ = some (.int .i64 xs[k].cpu):=(by rw [Nat.add_assoc];exact hc 2 _ rfl);have q3:wr.cell? ⟨b,o+k * 7+3,none⟩ = some (.int .i64 xs[k].mem):=(by rw [Nat.add_assoc];exact hc 3 _ rfl);have q4:wr.cell? ⟨b,o+k * 7+4,none⟩ = some (.int .i64 xs[k].rank):=(by rw [Nat.add_assoc];exact hc 4 _ rfl);have q5:wr.cell? ⟨b,o+k * 7+5,none⟩ = some (.slice oh xs[k].needs.length nT):=(by rw [Nat.add_assoc];exact hc 5 _ rfl);have q6:wr.cell? ⟨b,o+k * 7+6,none⟩ = some (.slice fA xs[k].tolerances.length fB):=(by rw [Nat.add_assoc];exact hc 6 _ rfl);clear hc
   go_wp2_with (first
    | (at_builtin
       refine uf adG J' _ _ J' _ _ _ _ _ hu J' [.int .i64 xs[k].cpu] aue J' aub O' O' (hbl.size) ?_;intro u2 w2 hu2 hg2 hz2 anT;have hne:some b≠u5.ownBlock:=(by intro e;have:=hu.lt _ e.symm;omega);replace q3:=hg2.cell q3 hne;have hb2:Below w.heap.size w w2:=lS hu hg2 hbl hbl.size;have hv2:=hv.kept hg2 hap.symm
       have hap2:=hap.grow (N:=_) hv O' anT)
    | (at_builtin
       refine uf adG J' _ _ J' _ _ _ _ _ hv2 J' [.int .i64 xs[k].mem] aue J' aub O' O' (hb2.size) ?_;intro v2 w3 hv3 hg3 hz3 hat3;have hu3:=hu2.kept hg3 hap2;have hap3:DK v2 u2:=hap2.symm.grow (N:=_) hu2 O' hat3
       have hb3:=lS hv2 hg3 hb2 hb2.size))
   exact Zaeb
  ·have hkl:k = xs.length:=O';subst hkl;rw [List.take_length] at hu hv;obtain ⟨Au,cu,Gu,rfl,hsu⟩:=Sl.oJ (xs:=xs.map nI.cpu) (by rw [List.length_map];exact hu) (Fv wr _ (by intro y hy;obtain ⟨p,hp,rfl⟩:=List.mem_map.1 hy;exact (hI.out p hp).1));obtain ⟨Av,cv,Gv,rfl,hsv⟩:=Sl.oJ (xs:=xs.map nI.mem) (by rw [List.length_map];exact hv) (Fv wr _ (by intro y hy;obtain ⟨p,hp,rfl⟩:=List.mem_map.1 hy;exact (hI.out p hp).2.1));clear hu hv hap;rcases hr1:GZ (xs.map nI.cpu) 0 with _ | a <;> rcases hr2:GZ (xs.map nI.mem) 0 with _ | b
   all_goals
    have hfin:vU xs = _:=(by unfold vU;rw [hr1,hr2]);have HF:=I' hfin;have R1:=I' hr1;have R2:=I' hr2;clear hr1 hr2 hfin;go_wp2_with fail
    refine (acD (xs.map nI.cpu) Au _ cu Gu _ hsu S' awH).mono ?_;rw [R1.out];rintro e w2 ⟨rfl,hb2⟩;go_wp2_with fail
    refine (acD (xs.map nI.mem) Av _ cv Gv _ (hsv.ext hb2) S' awH).mono ?_;rw [R2.out];rintro e w3 ⟨rfl,hb3⟩;go_wp2;go_returns
    exact ⟨by rw [HF.out];rfl,ah (ah hbl hb2) hb3⟩
end Go.Proofs.YtkjeocdobidadaaGreat
