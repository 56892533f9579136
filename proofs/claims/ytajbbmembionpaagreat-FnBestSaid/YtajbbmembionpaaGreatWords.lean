/- The words of labels and names, of the program and of the reference. No condition. -/
import Derived.Test.YtajbbmembionpaaGreatKit
import Derived.Lib.IndexAny
namespace Go.Proofs.YtajbbmembionpaaGreat
open Go.ChangeShapes Go.WideShapes Go.ChangeAt Go.RowKit
set_option linter.unusedVariables false
set_option linter.unusedSimpArgs false
set_option maxHeartbeats 400000
set_option maxRecDepth 100000
def GL (c:Int):Bool:=decide (97≤c)&&decide (c≤122) || decide (65≤c)&&decide (c≤90) || decide (48≤c)&&decide (c≤57)
def Pm (c:Int):Bool:=decide (97≤c)&&decide (c≤122)
def Pn (c:Int):Bool:=decide (48≤c)&&decide (c≤57)
def okB (o:ByteArray) (c:UInt8):Bool:=GL c.toNat || o.data.toList.contains c
def GN (o s:ByteArray):Bool:=decide (0 < s.size)&&(GL (s.data.toList.getD 0 0).toNat&&GL (s.data.toList.getD (s.size - 1) 0).toNat)&&s.data.toList.all (okB o)
theorem DF {s:ByteArray} {k:Nat} (h:k < s.size):s.data.toList.getD k 0 = s[k]:=by
 have h':k < s.data.size:=h;rw [List.getD_eq_getElem?_getD,List.getElem?_eq_getElem (by simpa using h')];simp [ByteArray.getElem_eq_getElem_data]
theorem YX {s:ByteArray} {p:UInt8→Bool} (h:∀j (hj:j < s.size),p s[j] = true):s.data.toList.all p = true:=by
 rw [List.all_eq_true];intro x hx;obtain ⟨j,hj,rfl⟩:=List.getElem_of_mem hx;have UL:j < s.size:=by simpa using hj
 have:=h j UL;simpa [ByteArray.getElem_eq_getElem_data] using this
theorem TM {s:ByteArray} {p:UInt8→Bool} {k:Nat} (hk:k < s.size) (h:p s[k] = false):s.data.toList.all p = false:=by
 rw [List.all_eq_false];have gO:k < s.data.size:=hk;refine ⟨s.data.toList[k]'(by simpa using gO),List.getElem_mem _,?_⟩;simp only [Array.getElem_toList];rw [ByteArray.getElem_eq_getElem_data] at h;simp [h]
theorem X4 {s:ByteArray} {p:UInt8→Bool} {k:Nat} (aq:k < s.size) (h:∀j (hj:j < s.size),j < k→p s[j] = true) (hp:p s[k] = true):∀j (hj:j < s.size),j < k+1→p s[j] = true:=fun j hj gh=>by
 rcases Nat.lt_or_ge j k with h1 | h1
 ·exact h j hj h1
 ·obtain rfl:j = k:=by omega
  exact hp
theorem UM (c:UInt8):((c.toNat:Int)).toNat.toUInt8 = c:=by simp
theorem IL (c:Int) (w:World):Calls Tryz.prog 168 #[.int .u8 c] w fun e w'=>e = .returned (.bool (GL c))∧w' = w:=by
 go_enter Tryz.func168,Tryz.ntmps168;exact F0
theorem Gm (c:Int) (w:World):Calls Tryz.prog 127 #[.int .u8 c] w fun e w'=>e = .returned (.bool (GL c))∧w' = w:=by
 go_enter Tryz.func127,Tryz.ntmps127;exact F0
theorem Q7 (s:ByteArray) (c:Int) (w:World):Calls Tryz.prog 173 #[.string s,.int .u8 c] w fun e w'=>e = .returned (.int .i64 (Lib.indexByte s.data.toList c.toNat.toUInt8))∧w' = w:=by
 go_enter Tryz.func173,Tryz.ntmps173;go_wp2;rw [run_callFunc_extern Tryz.func174 U' U' U' (e:=Extern.BytealgIndexByte.indexByte) U',Lib.run_indexByteString];simp only [Result.andThen];rw [Oper.upon_value];go_wp2;go_ret
 exact ⟨rfl,rfl⟩
theorem UP (s:ByteArray) (c:Int) (w:World):Calls Tryz.prog 171 #[.string s,.int .u8 c] w fun e w'=>e = .returned (.int .i64 (Lib.indexByte s.data.toList c.toNat.toUInt8))∧w' = w:=by
 go_enter Tryz.func171,Tryz.ntmps171;go_wp2_with fail
 refine (Q7 s c _).mono ?_;rintro e w' ⟨rfl,rfl⟩;go_wp2;go_ret
 exact ⟨rfl,rfl⟩
theorem UR (s o:ByteArray) (w:World) (hs:0 < s.size) (cM:(s.size:Int)≤1048576):Calls Tryz.prog 164 #[.string s,.string o] w fun e w'=>e = .returned (.bool (GN o s))∧w' = w:=by
 go_enter Tryz.func164,Tryz.ntmps164;go_wp2_with fail
 go_loop [9] (fun v=>∃(k:Nat),k≤s.size∧v = .int .i64 k∧Hid (∀j (hj:j < s.size),j < k→okB o s[j] = true)) (fun v=>s.size - (intOf v).toNat)
 case atStart=>exact ⟨0,Nat.zero_le _,rfl,fun j _ hj=>by omega⟩
 case round =>
  obtain ⟨k,hk,rfl,hall⟩:=hrel;by_cases aq:k < s.size
  ·cases h1:GL (s[k].toNat:Int) with
   | true =>
     have gd:okB o s[k] = true:=(by unfold okB;rw [h1];rfl);have H1:=I h1;have HN:=I (X4 aq hall.out gd);clear h1 gd;go_wp2_with (go_at_call 168;refine (IL (s[k].toNat:Int) _).mono ?_;rw [H1.out];rintro e w2 ⟨rfl,rfl⟩)
     exact ⟨⟨k+1,J,N',HN.out⟩,by simp [intOf];omega⟩
   | false =>
     have C3:=Lib.contains_iff_indexByte o.data.toList s[k];cases h2:o.data.toList.contains s[k] with
     | true =>
       rw [h2] at C3;have oS:0≤Lib.indexByte o.data.toList ((s[k].toNat:Int)).toNat.toUInt8:=(by rw [UM];simpa using C3.symm);have gd:okB o s[k] = true:=(by unfold okB;rw [h2];simp);have H1:=I h1;have HN:=I (X4 aq hall.out gd);clear h1 h2 C3 gd;generalize hgi:Lib.indexByte o.data.toList ((s[k].toNat:Int)).toNat.toUInt8 = gi at *;have Po:=I hgi;clear hgi;go_wp2_with (first | (go_at_call 168;refine (IL (s[k].toNat:Int) _).mono ?_;rw [H1.out];rintro e w2 ⟨rfl,rfl⟩) | (go_at_call 171;refine (UP o (s[k].toNat:Int) _).mono ?_;rw [Po.out];rintro e w3 ⟨rfl,rfl⟩))
       exact ⟨⟨k+1,J,N',HN.out⟩,by simp [intOf];omega⟩
     | false =>
       rw [h2] at C3;have oS:Lib.indexByte o.data.toList ((s[k].toNat:Int)).toNat.toUInt8 < 0:=(by rw [UM];simpa using C3.symm);have gd:okB o s[k] = false:=(by unfold okB;rw [h1,h2];rfl);have bi:GN o s = false:=(by unfold GN;rw [TM aq gd];simp);have HF:=I bi;have H1:=I h1;clear h1 h2 C3 gd bi;generalize hgi:Lib.indexByte o.data.toList ((s[k].toNat:Int)).toNat.toUInt8 = gi at *;have Po:=I hgi;clear hgi;go_wp2_with (first | (go_at_call 168;refine (IL (s[k].toNat:Int) _).mono ?_;rw [H1.out];rintro e w2 ⟨rfl,rfl⟩) | (go_at_call 171;refine (UP o (s[k].toNat:Int) _).mono ?_;rw [Po.out];rintro e w3 ⟨rfl,rfl⟩))
       go_ret
       exact ⟨by rw [HF.out];rfl,rfl⟩
  ·have bB:k = s.size:=J;subst bB;have ha:=YX (p:=okB o) (fun j hj=>hall.out j hj hj);cases h1:GL (s[0].toNat:Int) with
   | false =>
     have bi:GN o s = false:=(by unfold GN;rw [DF hs,h1];simp);have HF:=I bi;have H1:=I h1;clear h1 bi;go_wp2_with fail
     refine (IL (s[0].toNat:Int) _).mono ?_;rw [H1.out];rintro e w2 ⟨rfl,rfl⟩;go_wp2;go_ret
     exact ⟨by rw [HF.out];rfl,rfl⟩
   | true =>
     cases h2:GL (s[s.size - 1].toNat:Int)
     all_goals
      have bi:GN o s = _:=(by unfold GN;rw [ha,DF hs,DF (show s.size - 1 < s.size by omega),h1,h2]);simp only [hs,decide_true,Bool.true_and,Bool.and_true,Bool.and_false] at bi;have HF:=I bi;have H1:=I h1;have H2:=I h2;clear h1 h2 bi;go_wp2_with fail
      refine (IL (s[0].toNat:Int) _).mono ?_;rw [H1.out];rintro e w2 ⟨rfl,rfl⟩;go_wp2_with fail
      refine (IL (s[s.size - 1].toNat:Int) _).mono ?_;rw [H2.out];rintro e w2 ⟨rfl,rfl⟩;go_wp2;go_ret
      exact ⟨by rw [HF.out];rfl,rfl⟩
structure DL (P:Program) (t e:TypeId) (z:Value) (size bytes:Nat):Prop where
 ht:P.underlying t = some (.slice e)
 info:(P.info? e).map (fun i=>(i.zero,i.size,i.bytes)) = some (some z,size,bytes)
 mb:z.cells.size = size
 gg:0 < size
theorem lS {B size:Nat} {w0 w w':World} {v:Value} {e:TypeId} {n:Nat} {xs:List Value} (bd:w.ownsRow B e size v n xs) (hg:w.grownBy w' v.ownBlock) (hb:Below B w0 w) (hB:B≤w.heap.size):Below B w0 w' :=
 hb.grown hg hB fun k hk=>(bd.lt k hk).1
def B8 (u:UInt8):Value:=.int .u8 (u.toNat:Int)
section
variable {P:Program} {t e:TypeId} {z:Value} {size bytes:Nat}
theorem lC (hE:DL P t e z size bytes) {ops:Array Oper} {rest:List Oper} {o:Oper} {a:Act} {Q:Exit→Act→World→Prop} (tA:o.guard = none) (s x:Operand)
 (ho:o.op = .call { callee:=.builtin .append,args:=#[s,x],argTypes:=#[t,t] })
 (w:World) (base:Nat) (v:Value) (n:Nat) (xs:List Value) (bd:w.ownsRow base e size v n xs) (hs:a.eval s = v)
 (cs:List Value) (hx:a.eval x = .slice (some ⟨w.heap.size,0,none⟩) 1 1) (hl:cs.length = size) (h1:∀u∈cs,u.oneCell' = true)
 (hn:n≤2097152) (n9:bytes≤4096) (cP:base≤w.heap.size)
 (h:∀v' w',w'.ownsRow base e size v' (n+1) (xs++cs)→w.grownBy w' v.ownBlock→w.heap.size+1≤w'.heap.size→wpList P ops Q rest (a.put o.dst v') w'):wpList P ops Q (o :: rest) a (w.alloc (.cells cs.toArray e)):=by
 obtain ⟨ht,hi0,mb,gg⟩:=hE;obtain ⟨i,hi,hz,hsize,hb⟩:=info_parts hi0;have fL:(n+1) * bytes≤2097153 * 4096:=Nat.mul_le_mul J n9;refine wpList_append_own (w.alloc (.cells cs.toArray e)) tA s x t ho base e i z size bytes ht hi hz hsize hb mb gg v n xs hs (bd.alloc _) ⟨w.heap.size,0,none⟩ 1 1 cs hx J ?_ h1 lA J (by simp;omega) ?_
 ·exact zh
 ·intro v' w' mC hg _;refine h v' w' mC ⟨hg.os,hg.tape,hg.output,Nat.le_trans S' hg.size,fun k hk bN=>?_⟩ Uk;rw [hg.block k (by simp;omega) bN];exact Below.heap_alloc _ _ _ hk
end
def eD (w:World) (g:Nat) (t:TypeId) (N:Nat) (ds:List Value):Prop:=∃cs:Array Value,w.heap[g]? = some (.cells cs t (0,0))∧cs.size = N∧ds.length≤N∧∀(j:Nat) (u:Value),ds[j]? = some u→cs[j]? = some u
section
variable {w w':World} {g:Nat} {t:TypeId} {N:Nat} {ds:List Value}
theorem eD.lt (h:eD w g t N ds):g < w.heap.size:=by
 obtain ⟨cs,h,_⟩:=h;rcases Nat.lt_or_ge g w.heap.size with aq | oS
 ·exact aq
 ·rw [Array.getElem?_eq_none oS] at h;cases h
theorem eD.cell (h:eD w g t N ds) {i:Nat} (hi:i < N):∃u,w.cell? ⟨g,i,none⟩ = some u:=by
 obtain ⟨cs,h,rfl,_⟩:=h;exact ⟨cs[i],by rw [cell_of_row w g i cs t (0,0) h];exact Array.getElem?_eq_getElem hi⟩
theorem eD.frozen (h:eD w g t N ds) (i:Nat):w.frozen? ⟨g,i,none⟩ = false:=by
 obtain ⟨cs,h,_⟩:=h;simp [World.frozen?,h]
theorem eD.keep (h:eD w g t N ds) (hk:w'.heap[g]? = w.heap[g]?):eD w' g t N ds:=by
 obtain ⟨cs,h,r⟩:=h;exact ⟨cs,by rw [hk];exact h,r⟩
theorem eD.store (h:eD w g t N ds) (u:Value) (hi:ds.length < N):eD (w.setCell ⟨g,ds.length,none⟩ u) g t N (ds++[u]):=by
 obtain ⟨cs,h,rfl,hl,hc⟩:=h;refine ⟨cs.setIfInBounds ds.length u,?_,S',by simp;omega,fun j v hv=>?_⟩
 ·simp [World.setCell,Array.getElem?_modify,h]
 ·by_cases hj:j < ds.length
  ·rw [Array.getElem?_setIfInBounds_ne J];exact hc j v (by rwa [List.getElem?_append_left hj] at hv)
  ·have mD:j = ds.length:=by
    have:=(List.getElem?_eq_some_iff.1 hv).1;simp at this;omega
   subst mD;simp at hv;subst hv;rw [Array.getElem?_setIfInBounds_self_of_lt hi]
theorem eD.cells (h:eD w g t N ds):∀j u,ds[j]? = some u→w.cell? ⟨g,0+j,none⟩ = some u:=by
 obtain ⟨cs,h,_,_,hc⟩:=h;intro j u hu;rw [Nat.zero_add,cell_of_row w g j cs t (0,0) h];exact hc j u hu
end
structure am {α:Type} [ba α] (w:World) (B:Nat) (x:α) (cs:List Value) (F:List Nat):Prop where
 rd:rd w x cs F
 nodup:F.Nodup
 base:∀b∈F,B≤b
 plain:∀b∈F,∃ds t,w.heap[b]? = some (.cells ds t (0,0))
section
variable {α:Type} [ba α] {w w':World} {B:Nat} {x:α} {cs:List Value} {F:List Nat}
theorem am.lt (h:am w B x cs F):∀b∈F,b < w.heap.size:=ba.lt h.rd
theorem am.keep (h:am w B x cs F) (hk:∀b∈F,w'.heap[b]? = w.heap[b]?) (hz:w.heap.size≤w'.heap.size):am w' B x cs F :=
 ⟨ba.frame h.rd hk hz,h.nodup,h.base,fun b hb=>by rw [hk b hb];exact h.plain b hb⟩
theorem am.ext (h:am w B x cs F) (hb:Below w.heap.size w w'):am w' B x cs F:=h.keep (fun b ei=>hb.block b (h.lt b ei)) hb.size
theorem am.alloc (h:am w B x cs F) (o:Obj):am (w.alloc o) B x cs F:=h.ext (ak (aj _) o)
theorem am.setCell (h:am w B x cs F) {p:Addr} (hp:p.block < B) (u:Value):am (w.setCell p u) B x cs F :=
 h.keep (fun b hb=>Below.heap_setCell _ _ _ _ (by have:=h.base b hb;omega)) eI
theorem am.flat (h:Go.Proofs.YtajbbmembionpaaGreat.ba.rd w x cs []):am w B x cs []:=⟨h,List.nodup_nil,(fun b hb=>by cases hb),(fun b hb=>by cases hb)⟩
theorem am.mono (h:am w B x cs F) {B':Nat} (hB:B'≤B):am w B' x cs F:=⟨h.rd,h.nodup,fun b hb=>Nat.le_trans hB (h.base b hb),h.plain⟩
end
structure aY {α:Type} [ba α] (w:World) (B:Nat) (xs:List α) (ds:List Value) (F:List Nat):Prop where
 rd:jo w xs ds F
 nodup:F.Nodup
 base:∀b∈F,B≤b
 plain:∀b∈F,∃ds t,w.heap[b]? = some (.cells ds t (0,0))
section
variable {α:Type} [ba α] {w w':World} {B:Nat} {xs:List α} {ds:List Value} {F:List Nat}
theorem aY.lt (h:aY w B xs ds F):∀b∈F,b < w.heap.size:=h.rd.lt
theorem aY.nil (w:World) (B:Nat):aY w B ([]:List α) [] []:=⟨⟨rfl,rfl⟩,List.nodup_nil,(fun b hb=>by cases hb),(fun b hb=>by cases hb)⟩
theorem aY.keep (h:aY w B xs ds F) (hk:∀b∈F,w'.heap[b]? = w.heap[b]?) (hz:w.heap.size≤w'.heap.size):aY w' B xs ds F :=
 ⟨h.rd.frame hk hz,h.nodup,h.base,fun b hb=>by rw [hk b hb];exact h.plain b hb⟩
theorem aY.ext (h:aY w B xs ds F) (hb:Below w.heap.size w w'):aY w' B xs ds F:=h.keep (fun b ei=>hb.block b (h.lt b ei)) hb.size
theorem aY.setCell (h:aY w B xs ds F) {p:Addr} (hp:p.block < B) (u:Value):aY (w.setCell p u) B xs ds F :=
 h.keep (fun b hb=>Below.heap_setCell _ _ _ _ (by have:=h.base b hb;omega)) eI
theorem aY.push (h:aY w B xs ds F) {x:α} {cs:List Value} {G:List Nat} {B':Nat} (hx:am w B' x cs G) (hB:B≤B') (hF:∀b∈F,b < B'):aY w B (xs++[x]) (ds++cs) (F++G):=by
 refine ⟨h.rd.append (.single hx.rd),?_,?_,?_⟩
 ·rw [List.nodup_append];exact ⟨h.nodup,hx.nodup,fun a ha b hb=>by have:=hF a ha;have:=hx.base b hb;omega⟩
 ·intro b hb;rcases List.mem_append.1 hb with hb | hb
  ·exact h.base b hb
  ·exact Nat.le_trans hB (hx.base b hb)
 ·intro b hb;rcases List.mem_append.1 hb with hb | hb
  ·exact h.plain b hb
  ·exact hx.plain b hb
theorem am.oJ {e:TypeId} {v:Value} (h0:w.ownsRow B e (ba.size α) v xs.length ds) (h:aY w B xs ds F) (bN:∀g,v.ownBlock = some g→g∉F):∃A c G,v = .slice A xs.length c∧am w B xs [.slice A xs.length c] G:=by
 rcases h0 with ⟨hl,⟨rfl,hn⟩ | ⟨g,cap,dy,rfl,hb,hh,eM,hm,cA,ht⟩⟩
 ·obtain rfl:xs = []:=List.eq_nil_of_length_eq_zero hn;exact ⟨none,0,[],rfl,Sl.nil w none 0 (Nat.zero_le _),List.nodup_nil,(fun b hb=>by cases hb),(fun b hb=>by cases hb)⟩
 ·have hg:g < w.heap.size:=by
   exact zk
  refine ⟨_,cap,g :: F,rfl,⟨_,cap,F,ds,rfl,eM,hm,h.rd,.inr ⟨g,0,rfl,rfl,hg,fun j u hu=>?_⟩⟩,?_,?_,?_⟩
  ·exact za
  ·rw [List.nodup_cons];exact ⟨bN g rfl,h.nodup⟩
  ·intro b ei;rcases List.mem_cons.1 ei with rfl | ei
   ·exact hb
   ·exact h.base b ei
  ·exact E6
end
end Go.Proofs.YtajbbmembionpaaGreat
