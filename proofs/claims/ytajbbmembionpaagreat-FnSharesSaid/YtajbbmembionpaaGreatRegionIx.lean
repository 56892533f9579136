/- A region whose operations that only read may be taken first, wherever they stand in the text, and whose others come one behind the other. No condition. -/
import Derived.Test.YtajbbmembionpaaGreatRegion
import Derived.Lib.IndexAny
namespace Go.Proofs.YtajbbmembionpaaGreat
open Go.ChangeShapes Go.WideShapes Go.ChangeAt Go.RowKit
set_option linter.unusedVariables false
set_option linter.unusedSimpArgs false
set_option maxHeartbeats 400000
set_option maxRecDepth 100000
def d9 (l:List Oper):List Nat→List Oper
 | []=>[]
 | j :: js=>match l[j]? with | some o=>o :: d9 l js | none=>d9 l js
section
variable {P:Program} {ops:Array Oper} {md:Region.Mode} {C:World→Prop} {Q:Exit→Act→World→Prop}
def zY:List Nat→Array Bool→Array Bool
 | [],l=>l
 | k :: ks,l=>zY ks (l.setIfInBounds k true)
def VH (md:Region.Mode) (ops:Array Oper):List Nat→Array Bool→Bool
 | [],_=>true
 | k :: ks,al=>Region.free md ops al k&&(Region.ready md ops al).contains k&&VH md ops ks (al.setIfInBounds k true)
def VI (md:Region.Mode) (ops:Array Oper):List Nat→Array Bool→Bool
 | [],al=>(Region.ready md ops al).isEmpty
 | k :: ks,al=>decide (Region.ready md ops al = [k])&&VI md ops ks (al.setIfInBounds k true)
end
theorem P2 {P:Program} {C:World→Prop} {v:Value} {r:Result Next} {w:World} (e:r = .ok (.value v) w) (h:C w):iF P C v r:=by subst e;exact ⟨h,rfl⟩
def CQ (part whole:Int):Int:=if whole≤0∨part < 0 then 0 else if whole≤part then 100 else 100 * part / whole
theorem Ot {part whole:Int} (h:whole≤0∨part < 0):CQ part whole = 0:=by unfold CQ;rw [if_pos h]
theorem Kv {part whole:Int} (h1:¬whole≤0) (h2:¬part < 0) (h:whole≤part):CQ part whole = 100:=by unfold CQ;rw [if_neg J,if_pos h]
theorem M9 {P W:Nat} (hW:0 < W) (h:P < W):CQ P W = ((100 * P / W:Nat):Int):=by
 unfold CQ;rw [if_neg J,if_neg J,Int.natCast_ediv,Int.natCast_mul];rfl
theorem ZS (Q:Nat) (h:Q≤100):Value.int .i64 (IntKind.i64.wrap (Q:Int)) = Value.int .i64 (Q:Int):=by
 have e:IntKind.i64.wrap (Q:Int) = (Q:Int):=by rw [IntKind.wrap_i64];omega
 rw [e]
theorem zJ (part whole:Int):0≤CQ part whole∧CQ part whole≤100:=by
 by_cases h1:whole≤0∨part < 0
 ·rw [Ot h1];omega
 ·by_cases h2:whole≤part
  ·rw [Kv J J h2];omega
  ·obtain ⟨P,rfl⟩:∃P:Nat,part = P:=⟨part.toNat,J⟩;obtain ⟨W,rfl⟩:∃W:Nat,whole = W:=⟨whole.toNat,J⟩;rw [M9 J J];have:100 * P / W≤100:=(by rw [Nat.div_le_iff_le_mul_add_pred J];rw [Nat.mul_comm W 100];have:100 * P≤100 * W:=Nat.mul_le_mul_left _ J;omega);generalize 100 * P / W = Q at *;omega
section
variable {P:Program} {l:List Oper} {C:World→Prop} {Q:Exit→Act→World→Prop}
def kW (P:Program) (l:List Oper) (Q:Exit→Act→World→Prop) (C:World→Prop) (n:Nat) (al:Array Bool) (a:Act) (w:World):Prop:=wpAnyH P .any l.toArray Q C n al a w
theorem zU {id:Nat} {a:Act} {w:World} (w0:World) (n:Nat) (hm:P.follows .mixedOrders = true) (Z:l.toArray.size = n) (hw:Below w0.heap.size w0 w)
 (h:kW P l Q (lA w0) n (Array.replicate n false) a w.drew):(Code.region id l.toArray true).wp P Q a w:=by
 subst Z;exact wp_region_held_drew (S:=lA w0) hm (aA hw) fun _=>h
theorem aX {n:Nat} {al:Array Bool} {a:Act} {w:World} (i:Nat) {o:Oper} (v:Value) (ho:l[i]? = some o) (hB:(Region.noSelect l.toArray&&Region.free .any l.toArray al i&&(Region.ready .any l.toArray al).contains i) = true)
 (hQ:∀c a d v w,Q (.panic c) (Act.put a d v) w→Q (.panic c) a w) (hC:C w) (hy:YieldsIf P l.toArray C o v a) (h:kW P l Q C n (al.setIfInBounds i true) (a.put o.dst v) w):kW P l Q C (n+1) al a w:=by
 simp only [Bool.and_eq_true] at hB;exact wpAnyH_take (by simpa using ho) hB.1.1 hB.1.2 hB.2 (fun c a' w'=>hQ c a' _ v w') hy hC h
theorem L6 {n:Nat} {al:Array Bool} {a:Act} {w:World} {i:Nat} {o:Oper} (ho:l[i]? = some o) (hw:Region.wanted o (yielded l.toArray a.tmps) = true)
 (h:∀K:Act→World→Prop,(∀a' w',C w'→kW P l Q C n (al.setIfInBounds i true) a' w'→K a' w')→o.wp P a w K Q) :
 wpOp P l.toArray Q i (fun a' w'=>C w'∧wpAnyH P .any l.toArray Q C n (al.setIfInBounds i true) a' w') a w:=by
 unfold wpOp;rw [show l.toArray[i]? = some o by simpa using ho];dsimp only;rw [if_pos hw];exact .inl (h _ fun a' w' h1 h2=>⟨h1,h2⟩)
theorem bP {n:Nat} {al:Array Bool} {a:Act} {w:World} (i:Nat) {o:Oper} (ho:l[i]? = some o) (hr:Region.ready .any l.toArray al = [i]) (hw:Region.wanted o (yielded l.toArray a.tmps) = true)
 (h:∀K:Act→World→Prop,(∀a' w',C w'→kW P l Q C n (al.setIfInBounds i true) a' w'→K a' w')→o.wp P a w K Q):kW P l Q C (n+1) al a w :=
 wpAnyH_all hr S' fun j hj=>by
  obtain rfl:j = i:=by simpa using hj
  exact L6 ho hw h
theorem D7 {n:Nat} {al:Array Bool} {a:Act} {w:World} (i j:Nat) {o o':Oper} (ho:l[i]? = some o) (AP:l[j]? = some o') (hr:Region.ready .any l.toArray al = [i,j]) (hw:Region.wanted o (yielded l.toArray a.tmps) = true) (fN:Region.wanted o' (yielded l.toArray a.tmps) = true)
 (h:∀K:Act→World→Prop,(∀a' w',C w'→kW P l Q C n (al.setIfInBounds i true) a' w'→K a' w')→o.wp P a w K Q)
 (h':∀K:Act→World→Prop,(∀a' w',C w'→kW P l Q C n (al.setIfInBounds j true) a' w'→K a' w')→o'.wp P a w K Q):kW P l Q C (n+1) al a w :=
 wpAnyH_all hr S' fun k hk=>by
  simp only [List.mem_cons,List.not_mem_nil,or_false] at hk;rcases hk with rfl | rfl
  ·exact L6 ho hw h
  ·exact L6 AP fN h'
theorem YU {n:Nat} {al:Array Bool} {a:Act} {w:World} (E:Act→Act→World→Prop) (hE:∀a' w',E a a' w'→Q .normal a' w') (h:(∀a' w',E a a' w'→Q .normal a' w')→kW P l Q C n al a w):kW P l Q C n al a w:=h hE
theorem nR {al:Array Bool} {a:Act} {w:World} (hr:Region.ready .any l.toArray al = []) (h:Q .normal a w):kW P l Q C 0 al a w:=wpAnyH_done hr h 0
end
def GL (c:Int):Bool:=decide (97≤c)&&decide (c≤122) || decide (65≤c)&&decide (c≤90) || decide (48≤c)&&decide (c≤57)
def LW (c:Int):Bool:=decide (97≤c)&&decide (c≤122)
def LX (c:Int):Bool:=decide (48≤c)&&decide (c≤57)
def m' (o:ByteArray) (c:UInt8):Bool:=GL c.toNat || o.data.toList.contains c
def GN (o s:ByteArray):Bool:=decide (0 < s.size)&&(GL (s.data.toList.getD 0 0).toNat&&GL (s.data.toList.getD (s.size - 1) 0).toNat)&&s.data.toList.all (m' o)
theorem DF {s:ByteArray} {k:Nat} (h:k < s.size):s.data.toList.getD k 0 = s[k]:=by
 have h':k < s.data.size:=h;rw [List.getD_eq_getElem?_getD,List.getElem?_eq_getElem (by simpa using h')];simp [ByteArray.getElem_eq_getElem_data]
theorem YX {s:ByteArray} {p:UInt8→Bool} (h:∀j (hj:j < s.size),p s[j] = true):s.data.toList.all p = true:=by
 rw [List.all_eq_true];intro x hx;obtain ⟨j,hj,rfl⟩:=List.getElem_of_mem hx;have Qu:j < s.size:=by simpa using hj
 have:=h j Qu;simpa [ByteArray.getElem_eq_getElem_data] using this
theorem TM {s:ByteArray} {p:UInt8→Bool} {k:Nat} (hk:k < s.size) (h:p s[k] = false):s.data.toList.all p = false:=by
 rw [List.all_eq_false];have fX:k < s.data.size:=hk;refine ⟨s.data.toList[k]'(by simpa using fX),List.getElem_mem _,?_⟩;simp only [Array.getElem_toList];rw [ByteArray.getElem_eq_getElem_data] at h;simp [h]
theorem X4 {s:ByteArray} {p:UInt8→Bool} {k:Nat} (ax:k < s.size) (h:∀j (hj:j < s.size),j < k→p s[j] = true) (hp:p s[k] = true):∀j (hj:j < s.size),j < k+1→p s[j] = true:=fun j hj gl=>by
 rcases Nat.lt_or_ge j k with h1 | h1
 ·exact h j hj h1
 ·obtain rfl:j = k:=by omega
  exact hp
theorem Qw (c:UInt8):((c.toNat:Int)).toNat.toUInt8 = c:=by simp
theorem IL (c:Int) (w:World):Calls Tryz.prog 168 #[.int .u8 c] w fun e w'=>e = .returned (.bool (GL c))∧w' = w:=by
 go_enter Tryz.func168,Tryz.ntmps168;exact Dn
theorem Gm (c:Int) (w:World):Calls Tryz.prog 127 #[.int .u8 c] w fun e w'=>e = .returned (.bool (GL c))∧w' = w:=by
 go_enter Tryz.func127,Tryz.ntmps127;exact Dn
theorem Q7 (s:ByteArray) (c:Int) (w:World):Calls Tryz.prog 173 #[.string s,.int .u8 c] w fun e w'=>e = .returned (.int .i64 (Lib.indexByte s.data.toList c.toNat.toUInt8))∧w' = w:=by
 go_enter Tryz.func173,Tryz.ntmps173;go_wp2;rw [run_callFunc_extern Tryz.func174 U' U' U' (e:=Extern.BytealgIndexByte.indexByte) U',Lib.run_indexByteString];simp only [Result.andThen];rw [Oper.upon_value];go_wp2;go_ret
 exact ⟨rfl,rfl⟩
theorem Qx (s:ByteArray) (c:Int) (w:World):Calls Tryz.prog 171 #[.string s,.int .u8 c] w fun e w'=>e = .returned (.int .i64 (Lib.indexByte s.data.toList c.toNat.toUInt8))∧w' = w:=by
 go_enter Tryz.func171,Tryz.ntmps171;go_wp2_with fail
 refine (Q7 s c _).mono ?_;rintro e w' ⟨rfl,rfl⟩;go_wp2;go_ret
 exact ⟨rfl,rfl⟩
theorem Qy (s o:ByteArray) (w:World) (hs:0 < s.size) (cR:(s.size:Int)≤1048576):Calls Tryz.prog 164 #[.string s,.string o] w fun e w'=>e = .returned (.bool (GN o s))∧w' = w:=by
 go_enter Tryz.func164,Tryz.ntmps164;go_wp2_with fail
 go_loop [9] (fun v=>∃(k:Nat),k≤s.size∧v = .int .i64 k∧Hid (∀j (hj:j < s.size),j < k→m' o s[j] = true)) (fun v=>s.size - (intOf v).toNat)
 case atStart=>exact ⟨0,Nat.zero_le _,rfl,fun j _ hj=>by omega⟩
 case round =>
  obtain ⟨k,hk,rfl,hall⟩:=hrel;by_cases ax:k < s.size
  ·cases h1:GL (s[k].toNat:Int) with
   | true =>
     have gU:m' o s[k] = true:=(by unfold m';rw [h1];rfl);have H1:=I h1;have HN:=I (X4 ax hall.out gU);clear h1 gU;go_wp2_with (go_at_call 168;refine (IL (s[k].toNat:Int) _).mono ?_;rw [H1.out];rintro e w2 ⟨rfl,rfl⟩)
     exact ⟨⟨k+1,J,N',HN.out⟩,by simp [intOf];omega⟩
   | false =>
     have AI:=Lib.contains_iff_indexByte o.data.toList s[k];cases h2:o.data.toList.contains s[k] with
     | true =>
       rw [h2] at AI;have nP:0≤Lib.indexByte o.data.toList ((s[k].toNat:Int)).toNat.toUInt8:=(by rw [Qw];simpa using AI.symm);have gU:m' o s[k] = true:=(by unfold m';rw [h2];simp);have H1:=I h1;have HN:=I (X4 ax hall.out gU);clear h1 h2 AI gU;generalize hgi:Lib.indexByte o.data.toList ((s[k].toNat:Int)).toNat.toUInt8 = gi at *;have LZ:=I hgi;clear hgi;go_wp2_with (first | (go_at_call 168;refine (IL (s[k].toNat:Int) _).mono ?_;rw [H1.out];rintro e w2 ⟨rfl,rfl⟩) | (go_at_call 171;refine (Qx o (s[k].toNat:Int) _).mono ?_;rw [LZ.out];rintro e w3 ⟨rfl,rfl⟩))
       exact ⟨⟨k+1,J,N',HN.out⟩,by simp [intOf];omega⟩
     | false =>
       rw [h2] at AI;have nP:Lib.indexByte o.data.toList ((s[k].toNat:Int)).toNat.toUInt8 < 0:=(by rw [Qw];simpa using AI.symm);have gU:m' o s[k] = false:=(by unfold m';rw [h1,h2];rfl);have bi:GN o s = false:=(by unfold GN;rw [TM ax gU];simp);have HF:=I bi;have H1:=I h1;clear h1 h2 AI gU bi;generalize hgi:Lib.indexByte o.data.toList ((s[k].toNat:Int)).toNat.toUInt8 = gi at *;have LZ:=I hgi;clear hgi;go_wp2_with (first | (go_at_call 168;refine (IL (s[k].toNat:Int) _).mono ?_;rw [H1.out];rintro e w2 ⟨rfl,rfl⟩) | (go_at_call 171;refine (Qx o (s[k].toNat:Int) _).mono ?_;rw [LZ.out];rintro e w3 ⟨rfl,rfl⟩))
       go_ret
       exact ⟨by rw [HF.out];rfl,rfl⟩
  ·have bF:k = s.size:=J;subst bF;have ha:=YX (p:=m' o) (fun j hj=>hall.out j hj hj);cases h1:GL (s[0].toNat:Int) with
   | false =>
     have bi:GN o s = false:=(by unfold GN;rw [DF hs,h1];simp);have HF:=I bi;have H1:=I h1;clear h1 bi;go_wp2_with fail
     refine (IL (s[0].toNat:Int) _).mono ?_;rw [H1.out];rintro e w2 ⟨rfl,rfl⟩;go_wp2;go_ret
     exact ⟨by rw [HF.out];rfl,rfl⟩
   | true =>
     cases h2:GL (s[s.size - 1].toNat:Int)
     all_goals
      have bi:GN o s = _:=(by unfold GN;rw [ha,DF hs,DF (show s.size - 1 < s.size by omega),h1,h2]);simp only [hs,decide_true,Bool.true_and,Bool.and_true,Bool.and_false] at bi;have HF:=I bi;have H1:=I h1;have H2:=I h2;clear h1 h2 bi;go_wp2_with fail
      refine (IL (s[0].toNat:Int) _).mono ?_;rw [H1.out];rintro e w2 ⟨rfl,rfl⟩;go_wp2_with fail
      refine (IL (s[s.size - 1].toNat:Int) _).mono ?_;rw [H2.out];rintro e w2 ⟨rfl,rfl⟩;go_wp2;go_ret
      exact ⟨by rw [HF.out];rfl,rfl⟩
structure DL (P:Program) (t e:TypeId) (z:Value) (size bytes:Nat):Prop where
 ht:P.underlying t = some (.slice e)
 VM:(P.info? e).map (fun i=>(i.zero,i.size,i.bytes)) = some (some z,size,bytes)
 lB:z.cells.size = size
 gT:0 < size
theorem lS {B size:Nat} {w0 w w':World} {v:Value} {e:TypeId} {n:Nat} {xs:List Value} (bk:w.ownsRow B e size v n xs) (hg:w.grownBy w' v.ownBlock) (X:Below B w0 w) (hB:B≤w.heap.size):Below B w0 w' :=
 X.grown hg hB fun k hk=>(bk.lt k hk).1
def B8 (u:UInt8):Value:=.int .u8 (u.toNat:Int)
section
variable {P:Program} {t e:TypeId} {z:Value} {size bytes:Nat}
theorem lC (hE:DL P t e z size bytes) {ops:Array Oper} {rest:List Oper} {o:Oper} {a:Act} {Q:Exit→Act→World→Prop} (sl:o.guard = none) (s x:Operand)
 (ho:o.op = .call { callee:=.builtin .append,args:=#[s,x],argTypes:=#[t,t] })
 (w:World) (base:Nat) (v:Value) (n:Nat) (xs:List Value) (bk:w.ownsRow base e size v n xs) (hs:a.eval s = v)
 (cs:List Value) (hx:a.eval x = .slice (some ⟨w.heap.size,0,none⟩) 1 1) (hl:cs.length = size) (h1:∀u∈cs,u.oneCell' = true)
 (Z:n≤2097152) (mU:bytes≤4096) (dk:base≤w.heap.size)
 (h:∀v' w',w'.ownsRow base e size v' (n+1) (xs++cs)→w.grownBy w' v.ownBlock→w.heap.size+1≤w'.heap.size→wpList P ops Q rest (a.put o.dst v') w'):wpList P ops Q (o :: rest) a (w.alloc (.cells cs.toArray e)):=by
 obtain ⟨ht,hi0,lB,gT⟩:=hE;obtain ⟨i,hi,hz,hsize,X⟩:=info_parts hi0;have i7:(n+1) * bytes≤2097153 * 4096:=Nat.mul_le_mul J mU;refine wpList_append_own (w.alloc (.cells cs.toArray e)) sl s x t ho base e i z size bytes ht hi hz hsize X lB gT v n xs hs (bk.alloc _) ⟨w.heap.size,0,none⟩ 1 1 cs hx J ?_ h1 kD J (by simp;omega) ?_
 ·exact xw
 ·intro v' w' lZ hg _;refine h v' w' lZ ⟨hg.os,hg.tape,hg.output,Nat.le_trans S' hg.size,fun k hk b4=>?_⟩ Qi;rw [hg.block k (by simp;omega) b4];exact Below.heap_alloc _ _ _ hk
end
def ey (w:World) (g:Nat) (t:TypeId) (N:Nat) (ds:List Value):Prop:=∃cs:Array Value,w.heap[g]? = some (.cells cs t (0,0))∧cs.size = N∧ds.length≤N∧∀(j:Nat) (u:Value),ds[j]? = some u→cs[j]? = some u
section
variable {w w':World} {g:Nat} {t:TypeId} {N:Nat} {ds:List Value}
theorem ey.lt (h:ey w g t N ds):g < w.heap.size:=by
 obtain ⟨cs,h,_⟩:=h;rcases Nat.lt_or_ge g w.heap.size with ax | nP
 ·exact ax
 ·rw [Array.getElem?_eq_none nP] at h;cases h
theorem ey.cell (h:ey w g t N ds) {i:Nat} (hi:i < N):∃u,w.cell? ⟨g,i,none⟩ = some u:=by
 obtain ⟨cs,h,rfl,_⟩:=h;exact ⟨cs[i],by rw [cell_of_row w g i cs t (0,0) h];exact Array.getElem?_eq_getElem hi⟩
theorem ey.frozen (h:ey w g t N ds) (i:Nat):w.frozen? ⟨g,i,none⟩ = false:=by
 obtain ⟨cs,h,_⟩:=h;simp [World.frozen?,h]
theorem ey.bs (h:ey w g t N ds) (hk:w'.heap[g]? = w.heap[g]?):ey w' g t N ds:=by
 obtain ⟨cs,h,r⟩:=h;exact ⟨cs,by rw [hk];exact h,r⟩
theorem ey.store (h:ey w g t N ds) (u:Value) (hi:ds.length < N):ey (w.setCell ⟨g,ds.length,none⟩ u) g t N (ds++[u]):=by
 obtain ⟨cs,h,rfl,hl,hc⟩:=h;refine ⟨cs.setIfInBounds ds.length u,?_,S',by simp;omega,fun j v hv=>?_⟩
 ·simp [World.setCell,Array.getElem?_modify,h]
 ·by_cases hj:j < ds.length
  ·rw [Array.getElem?_setIfInBounds_ne J];exact hc j v (by rwa [List.getElem?_append_left hj] at hv)
  ·have mW:j = ds.length:=by
    have:=(List.getElem?_eq_some_iff.1 hv).1;simp at this;omega
   subst mW;simp at hv;subst hv;rw [Array.getElem?_setIfInBounds_self_of_lt hi]
theorem ey.cells (h:ey w g t N ds):∀j u,ds[j]? = some u→w.cell? ⟨g,0+j,none⟩ = some u:=by
 obtain ⟨cs,h,_,_,hc⟩:=h;intro j u hu;rw [Nat.zero_add,cell_of_row w g j cs t (0,0) h];exact hc j u hu
end
structure am {α:Type} [bc α] (w:World) (B:Nat) (x:α) (cs:List Value) (F:List Nat):Prop where
 rd:rd w x cs F
 nodup:F.Nodup
 base:∀b∈F,B≤b
 plain:∀b∈F,∃ds t,w.heap[b]? = some (.cells ds t (0,0))
section
variable {α:Type} [bc α] {w w':World} {B:Nat} {x:α} {cs:List Value} {F:List Nat}
theorem am.lt (h:am w B x cs F):∀b∈F,b < w.heap.size:=bc.lt h.rd
theorem am.bs (h:am w B x cs F) (hk:∀b∈F,w'.heap[b]? = w.heap[b]?) (hz:w.heap.size≤w'.heap.size):am w' B x cs F :=
 ⟨bc.frame h.rd hk hz,h.nodup,h.base,fun b X=>by rw [hk b X];exact h.plain b X⟩
theorem am.ext (h:am w B x cs F) (X:Below w.heap.size w w'):am w' B x cs F:=h.bs (fun b ek=>X.block b (h.lt b ek)) X.size
theorem am.alloc (h:am w B x cs F) (o:Obj):am (w.alloc o) B x cs F:=h.ext (ak (aj _) o)
theorem am.setCell (h:am w B x cs F) {p:Addr} (hp:p.block < B) (u:Value):am (w.setCell p u) B x cs F :=
 h.bs (fun b X=>Below.heap_setCell _ _ _ _ (by have:=h.base b X;omega)) eC
theorem am.cK (h:Go.Proofs.YtajbbmembionpaaGreat.bc.rd w x cs []):am w B x cs []:=⟨h,List.nodup_nil,(fun b X=>by cases X),(fun b X=>by cases X)⟩
theorem am.mono (h:am w B x cs F) {B':Nat} (hB:B'≤B):am w B' x cs F:=⟨h.rd,h.nodup,fun b X=>Nat.le_trans hB (h.base b X),h.plain⟩
end
structure aY {α:Type} [bc α] (w:World) (B:Nat) (xs:List α) (ds:List Value) (F:List Nat):Prop where
 rd:jo w xs ds F
 nodup:F.Nodup
 base:∀b∈F,B≤b
 plain:∀b∈F,∃ds t,w.heap[b]? = some (.cells ds t (0,0))
section
variable {α:Type} [bc α] {w w':World} {B:Nat} {xs:List α} {ds:List Value} {F:List Nat}
theorem aY.lt (h:aY w B xs ds F):∀b∈F,b < w.heap.size:=h.rd.lt
theorem aY.nil (w:World) (B:Nat):aY w B ([]:List α) [] []:=⟨⟨rfl,rfl⟩,List.nodup_nil,(fun b X=>by cases X),(fun b X=>by cases X)⟩
theorem aY.bs (h:aY w B xs ds F) (hk:∀b∈F,w'.heap[b]? = w.heap[b]?) (hz:w.heap.size≤w'.heap.size):aY w' B xs ds F :=
 ⟨h.rd.frame hk hz,h.nodup,h.base,fun b X=>by rw [hk b X];exact h.plain b X⟩
theorem aY.ext (h:aY w B xs ds F) (X:Below w.heap.size w w'):aY w' B xs ds F:=h.bs (fun b ek=>X.block b (h.lt b ek)) X.size
theorem aY.setCell (h:aY w B xs ds F) {p:Addr} (hp:p.block < B) (u:Value):aY (w.setCell p u) B xs ds F :=
 h.bs (fun b X=>Below.heap_setCell _ _ _ _ (by have:=h.base b X;omega)) eC
theorem aY.push (h:aY w B xs ds F) {x:α} {cs:List Value} {G:List Nat} {B':Nat} (hx:am w B' x cs G) (hB:B≤B') (hF:∀b∈F,b < B'):aY w B (xs++[x]) (ds++cs) (F++G):=by
 refine ⟨h.rd.append (.single hx.rd),?_,?_,?_⟩
 ·rw [List.nodup_append];exact ⟨h.nodup,hx.nodup,fun a ha b X=>by have:=hF a ha;have:=hx.base b X;omega⟩
 ·intro b X;rcases List.mem_append.1 X with X | X
  ·exact h.base b X
  ·exact Nat.le_trans hB (hx.base b X)
 ·intro b X;rcases List.mem_append.1 X with X | X
  ·exact h.plain b X
  ·exact hx.plain b X
theorem am.oJ {e:TypeId} {v:Value} (h0:w.ownsRow B e (bc.size α) v xs.length ds) (h:aY w B xs ds F) (b4:∀g,v.ownBlock = some g→g∉F):∃A c G,v = .slice A xs.length c∧am w B xs [.slice A xs.length c] G:=by
 rcases h0 with ⟨hl,⟨rfl,Z⟩ | ⟨g,aq,dx,rfl,X,hh,gv,hm,cb,ht⟩⟩
 ·obtain rfl:xs = []:=List.eq_nil_of_length_eq_zero Z;exact ⟨none,0,[],rfl,Sl.nil w none 0 (Nat.zero_le _),List.nodup_nil,(fun b X=>by cases X),(fun b X=>by cases X)⟩
 ·have hg:g < w.heap.size:=by
   exact xz
  refine ⟨_,aq,g :: F,rfl,⟨_,aq,F,ds,rfl,gv,hm,h.rd,.inr ⟨g,0,rfl,rfl,hg,fun j u hu=>?_⟩⟩,?_,?_,?_⟩
  ·exact xo
  ·rw [List.nodup_cons];exact ⟨b4 g rfl,h.nodup⟩
  ·intro b ek;rcases List.mem_cons.1 ek with rfl | ek
   ·exact X
   ·exact h.base b ek
  ·exact CT
end
theorem vO {w:World} {x:ap} {cs:List Value} {F:List Nat} (h:rd w x cs F):cs = [.string x.key,.string x.value]∧F = []∧x.key.size≤maxLen∧x.value.size≤maxLen:=by
 obtain ⟨_,_,_,_,rfl,rfl,⟨rfl,rfl,cf⟩,⟨rfl,rfl,kP⟩⟩:=h;exact ⟨rfl,S',cf,kP⟩
theorem EH (w:World) (x:ap) (cf:x.key.size≤maxLen) (kP:x.value.size≤maxLen):rd w x [.string x.key,.string x.value] []:=⟨_,_,_,_,rfl,rfl,⟨rfl,rfl,cf⟩,⟨rfl,rfl,kP⟩⟩
structure aM where
 key:ByteArray
 op:Int
 values:List ByteArray
instance:bc aM:=bc.mz fun x=>(x.key,x.op,x.values)
theorem og {w:World} {x:aM} {cs:List Value} {F:List Nat} (h:rd w x cs F):∃(jy:Option Addr) (ji:Nat) (Bo:List Nat),cs = [.string x.key,.int .i64 x.op,.slice jy x.values.length ji]∧F = Bo∧x.key.size≤maxLen∧br x.op∧Sl w x.values jy ji Bo:=by
 obtain ⟨_,_,_,_,rfl,rfl,⟨rfl,rfl,cf⟩,_,_,_,_,rfl,rfl,⟨rfl,rfl,ia⟩,kV⟩:=h;obtain ⟨jy,ji,rfl,kV⟩:=jB kV;exact ⟨jy,ji,_,rfl,S',cf,ia,kV⟩
structure iU where
 key:ByteArray
 value:ByteArray
 ao:Int
instance:bc iU:=bc.mz fun x=>(x.key,x.value,x.ao)
theorem oK {w:World} {x:iU} {cs:List Value} {F:List Nat} (h:rd w x cs F):cs = [.string x.key,.string x.value,.int .i64 x.ao]∧F = []∧x.key.size≤maxLen∧x.value.size≤maxLen∧br x.ao:=by
 obtain ⟨_,_,_,_,rfl,rfl,⟨rfl,rfl,cf⟩,_,_,_,_,rfl,rfl,⟨rfl,rfl,kP⟩,⟨rfl,rfl,lD⟩⟩:=h;exact ⟨rfl,S',cf,kP,lD⟩
theorem Q8 (w:World) (x:iU) (cf:x.key.size≤maxLen) (kP:x.value.size≤maxLen) (lD:br x.ao):rd w x [.string x.key,.string x.value,.int .i64 x.ao] []:=⟨_,_,_,_,rfl,rfl,⟨rfl,rfl,cf⟩,_,_,_,_,rfl,rfl,⟨rfl,rfl,kP⟩,⟨rfl,rfl,lD⟩⟩
structure bH where
 key:ByteArray
 equal:Bool
 value:ByteArray
 ao:Int
instance:bc bH:=bc.mz fun x=>(x.key,x.equal,x.value,x.ao)
theorem jv {w:World} {x:bH} {cs:List Value} {F:List Nat} (h:rd w x cs F):cs = [.string x.key,.bool x.equal,.string x.value,.int .i64 x.ao]∧F = []∧x.key.size≤maxLen∧x.value.size≤maxLen∧br x.ao:=by
 obtain ⟨_,_,_,_,rfl,rfl,⟨rfl,rfl,cf⟩,_,_,_,_,rfl,rfl,⟨rfl,rfl⟩,_,_,_,_,rfl,rfl,⟨rfl,rfl,kP⟩,⟨rfl,rfl,lD⟩⟩:=h;exact ⟨rfl,S',cf,kP,lD⟩
theorem Ov (w:World) (x:bH) (cf:x.key.size≤maxLen) (kP:x.value.size≤maxLen) (lD:br x.ao):rd w x [.string x.key,.bool x.equal,.string x.value,.int .i64 x.ao] []:=⟨_,_,_,_,rfl,rfl,⟨rfl,rfl,cf⟩,_,_,_,_,rfl,rfl,⟨rfl,rfl⟩,_,_,_,_,rfl,rfl,⟨rfl,rfl,kP⟩,⟨rfl,rfl,lD⟩⟩
structure nI where
 name:ByteArray
 labels:List ap
 az:Int
 mem:Int
 aw:Int
 ai:List aM
 ae:List bH
instance:bc nI:=bc.mz fun x=>(x.name,x.labels,x.az,x.mem,x.aw,x.ai,x.ae)
theorem dL {w:World} {x:nI} {cs:List Value} {F:List Nat} (h:rd w x cs F):∃(gu:Option Addr) (gy:Nat) (jw:List Nat) (oh:Option Addr) (nT:Nat) (wG:List Nat) (fA:Option Addr) (fB:Nat) (jY:List Nat),cs = [.string x.name,.slice gu x.labels.length gy,.int .i64 x.az,.int .i64 x.mem,.int .i64 x.aw,.slice oh x.ai.length nT,.slice fA x.ae.length fB]∧F = jw++(wG++(jY))∧x.name.size≤maxLen∧Sl w x.labels gu gy jw∧br x.az∧br x.mem∧br x.aw∧Sl w x.ai oh nT wG∧Sl w x.ae fA fB jY:=by
 obtain ⟨_,_,_,_,rfl,rfl,⟨rfl,rfl,hname⟩,_,_,_,_,rfl,rfl,dO,_,_,_,_,rfl,rfl,⟨rfl,rfl,vg⟩,_,_,_,_,rfl,rfl,⟨rfl,rfl,cB⟩,_,_,_,_,rfl,rfl,⟨rfl,rfl,BJ⟩,_,_,_,_,rfl,rfl,mX,eG⟩:=h;obtain ⟨gu,gy,rfl,dO⟩:=jB dO;obtain ⟨oh,nT,rfl,mX⟩:=jB mX;obtain ⟨fA,fB,rfl,eG⟩:=jB eG;exact ⟨gu,gy,_,oh,nT,_,fA,fB,_,rfl,S',hname,dO,vg,cB,BJ,mX,eG⟩
structure ba where
 name:ByteArray
 labels:List ap
 az:Int
 mem:Int
 av:Int
 aT:List iU
instance:bc ba:=bc.mz fun x=>(x.name,x.labels,x.az,x.mem,x.av,x.aT)
theorem iy {w:World} {x:ba} {cs:List Value} {F:List Nat} (h:rd w x cs F):∃(gu:Option Addr) (gy:Nat) (jw:List Nat) (kJ:Option Addr) (kK:Nat) (qU:List Nat),cs = [.string x.name,.slice gu x.labels.length gy,.int .i64 x.az,.int .i64 x.mem,.int .i64 x.av,.slice kJ x.aT.length kK]∧F = jw++(qU)∧x.name.size≤maxLen∧Sl w x.labels gu gy jw∧br x.az∧br x.mem∧br x.av∧Sl w x.aT kJ kK qU:=by
 obtain ⟨_,_,_,_,rfl,rfl,⟨rfl,rfl,hname⟩,_,_,_,_,rfl,rfl,dO,_,_,_,_,rfl,rfl,⟨rfl,rfl,vg⟩,_,_,_,_,rfl,rfl,⟨rfl,rfl,cB⟩,_,_,_,_,rfl,rfl,⟨rfl,rfl,uI⟩,jq⟩:=h;obtain ⟨gu,gy,rfl,dO⟩:=jB dO;obtain ⟨kJ,kK,rfl,jq⟩:=jB jq;exact ⟨gu,gy,_,kJ,kK,_,rfl,S',hname,dO,vg,cB,uI,jq⟩
structure rZ where
 pack:Int
 af:Int
 an:Int
instance:bc rZ:=bc.mz fun x=>(x.pack,x.af,x.an)
theorem mg {w:World} {x:rZ} {cs:List Value} {F:List Nat} (h:rd w x cs F):cs = [.int .i64 x.pack,.int .i64 x.af,.int .i64 x.an]∧F = []∧br x.pack∧br x.af∧br x.an:=by
 obtain ⟨_,_,_,_,rfl,rfl,⟨rfl,rfl,LI⟩,_,_,_,_,rfl,rfl,⟨rfl,rfl,U0⟩,⟨rfl,rfl,LJ⟩⟩:=h;exact ⟨rfl,S',LI,U0,LJ⟩
theorem Zj (w:World) (x:rZ) (LI:br x.pack) (U0:br x.af) (LJ:br x.an):rd w x [.int .i64 x.pack,.int .i64 x.af,.int .i64 x.an] []:=⟨_,_,_,_,rfl,rfl,⟨rfl,rfl,LI⟩,_,_,_,_,rfl,rfl,⟨rfl,rfl,U0⟩,⟨rfl,rfl,LJ⟩⟩
structure ag where
 aS:nI
 on:ByteArray
 seq:Int
instance:bc ag:=bc.mz fun x=>(x.aS,x.on,x.seq)
theorem kE {w:World} {x:ag} {cs:List Value} {F:List Nat} (h:rd w x cs F):∃(gV:Option Addr) (gW:Nat) (lF:List Nat) (iR:Option Addr) (iT:Nat) (mV:List Nat) (dD:Option Addr) (dF:Nat) (iH:List Nat),cs = [.string x.aS.name,.slice gV x.aS.labels.length gW,.int .i64 x.aS.az,.int .i64 x.aS.mem,.int .i64 x.aS.aw,.slice iR x.aS.ai.length iT,.slice dD x.aS.ae.length dF,.string x.on,.int .i64 x.seq]∧F = lF++(mV++(iH))∧x.aS.name.size≤maxLen∧Sl w x.aS.labels gV gW lF∧br x.aS.az∧br x.aS.mem∧br x.aS.aw∧Sl w x.aS.ai iR iT mV∧Sl w x.aS.ae dD dF iH∧x.on.size≤maxLen∧br x.seq:=by
 obtain ⟨_,_,_,_,rfl,rfl,WT,_,_,_,_,rfl,rfl,⟨rfl,rfl,gR⟩,⟨rfl,rfl,hseq⟩⟩:=h;obtain ⟨gV,gW,lF,iR,iT,mV,dD,dF,iH,rfl,rfl,nY,iE,rF,rG,oZ,je,dN⟩:=dL WT;exact ⟨gV,gW,_,iR,iT,_,dD,dF,_,rfl,S',nY,iE,rF,rG,oZ,je,dN,gR,hseq⟩
structure aU where
 aa:List ba
 V:List ag
 next:Int
 weights:rZ
instance:bc aU:=bc.mz fun x=>(x.aa,x.V,x.next,x.weights)
theorem aO {w:World} {x:aU} {cs:List Value} {F:List Nat} (h:rd w x cs F):∃(bG:Option Addr) (bD:Nat) (fQ:List Nat) (dn:Option Addr) (bW:Nat) (jg:List Nat),cs = [.slice bG x.aa.length bD,.slice dn x.V.length bW,.int .i64 x.next,.int .i64 x.weights.pack,.int .i64 x.weights.af,.int .i64 x.weights.an]∧F = fQ++(jg)∧Sl w x.aa bG bD fQ∧Sl w x.V dn bW jg∧br x.next∧br x.weights.pack∧br x.weights.af∧br x.weights.an:=by
 obtain ⟨_,_,_,_,rfl,rfl,bQ,_,_,_,_,rfl,rfl,dM,_,_,_,_,rfl,rfl,⟨rfl,rfl,hnext⟩,xM⟩:=h;obtain ⟨bG,bD,rfl,bQ⟩:=jB bQ;obtain ⟨dn,bW,rfl,dM⟩:=jB dM;obtain ⟨rfl,rfl,aV,aP,aW⟩:=mg xM;exact ⟨bG,bD,_,dn,bW,_,rfl,S',bQ,dM,hnext,aV,aP,aW⟩
structure cg where
 kind:Int
 aS:nI
 bm:ba
instance:bc cg:=bc.mz fun x=>(x.kind,x.aS,x.bm)
theorem NS {w:World} {x:cg} {cs:List Value} {F:List Nat} (h:rd w x cs F):∃(gV:Option Addr) (gW:Nat) (lF:List Nat) (iR:Option Addr) (iT:Nat) (mV:List Nat) (dD:Option Addr) (dF:Nat) (iH:List Nat) (yx:Option Addr) (yA:Nat) (JV:List Nat) (yB:Option Addr) (yC:Nat) (JW:List Nat),cs = [.int .i64 x.kind,.string x.aS.name,.slice gV x.aS.labels.length gW,.int .i64 x.aS.az,.int .i64 x.aS.mem,.int .i64 x.aS.aw,.slice iR x.aS.ai.length iT,.slice dD x.aS.ae.length dF,.string x.bm.name,.slice yx x.bm.labels.length yA,.int .i64 x.bm.az,.int .i64 x.bm.mem,.int .i64 x.bm.av,.slice yB x.bm.aT.length yC]∧F = lF++(mV++(iH++(JV++(JW))))∧br x.kind∧x.aS.name.size≤maxLen∧Sl w x.aS.labels gV gW lF∧br x.aS.az∧br x.aS.mem∧br x.aS.aw∧Sl w x.aS.ai iR iT mV∧Sl w x.aS.ae dD dF iH∧x.bm.name.size≤maxLen∧Sl w x.bm.labels yx yA JV∧br x.bm.az∧br x.bm.mem∧br x.bm.av∧Sl w x.bm.aT yB yC JW:=by
 obtain ⟨_,_,_,_,rfl,rfl,⟨rfl,rfl,hkind⟩,_,_,_,_,rfl,rfl,WT,afd⟩:=h;obtain ⟨gV,gW,lF,iR,iT,mV,dD,dF,iH,rfl,rfl,nY,iE,rF,rG,oZ,je,dN⟩:=dL WT;obtain ⟨yx,yA,JV,yB,yC,JW,rfl,rfl,JX,EZ,NT,NU,Hf,E5⟩:=iy afd;exact ⟨gV,gW,_,iR,iT,_,dD,dF,_,yx,yA,_,yB,yC,_,rfl,S',hkind,nY,iE,rF,rG,oZ,je,dN,JX,EZ,NT,NU,Hf,E5⟩
structure tV where
 LK:Int
 lm:Int
 path:ByteArray
instance:bc tV:=bc.mz fun x=>(x.LK,x.lm,x.path)
end Go.Proofs.YtajbbmembionpaaGreat
