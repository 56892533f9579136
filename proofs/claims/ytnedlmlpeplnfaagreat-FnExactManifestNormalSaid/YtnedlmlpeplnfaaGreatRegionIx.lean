/- A region whose operations that only read may be taken first, wherever they stand in the text, and whose others come one behind the other. No condition. -/
import Derived.Test.YtnedlmlpeplnfaaGreatRegion
import Derived.Test.YtnedlmlpeplnfaaGreatKit
import Derived.Laws.MakeOwn
import Derived.Laws.IdiomStrings
namespace Go.Proofs.YtnedlmlpeplnfaaGreat
open Go.RowKit
set_option linter.unusedVariables false
def pick (l:List Oper):List Nat→List Oper
 | []=>[]
 | j :: js=>match l[j]? with | some o=>o :: pick l js | none=>pick l js
section
variable {P:Program} {ops:Array Oper} {md:Region.Mode} {C:World→Prop} {Q:Exit→Act→World→Prop}
def zY:List Nat→Array Bool→Array Bool
 | [],l=>l
 | k :: ks,l=>zY ks (l.setIfInBounds k true)
def VH (md:Region.Mode) (ops:Array Oper):List Nat→Array Bool→Bool
 | [],_=>true
 | k :: ks,listed=>Region.free md ops listed k&&(Region.ready md ops listed).contains k&&VH md ops ks (listed.setIfInBounds k true)
def VI (md:Region.Mode) (ops:Array Oper):List Nat→Array Bool→Bool
 | [],listed=>(Region.ready md ops listed).isEmpty
 | k :: ks,listed=>decide (Region.ready md ops listed = [k])&&VI md ops ks (listed.setIfInBounds k true)
theorem abU:∀(l:List Oper) (ks:List Nat) (listed:Array Bool) (a:Act) (w:World),l.toArray = ops→VI md ops ks listed = true→ED P ops C Q (pick l ks) a w→wpAnyH P md ops Q C ks.length listed a w
 | l,[],listed,a,w,hl,hB,h=>by
   simp only [VI,List.isEmpty_iff] at hB;exact ⟨hB,h⟩
 | l,k :: ks,listed,a,w,hl,hB,h=>by
   simp only [VI,Bool.and_eq_true,decide_eq_true_eq] at hB;obtain ⟨_,o,ho,_⟩:=mem_ready.1 (show k∈Region.ready md ops listed by rw [hB.1];simp);have hlo:l[k]? = some o:=(by rw [← hl] at ho;simpa using ho);simp only [pick,hlo] at h;refine wpAnyH_all hB.1 S' fun i hi=>?_;obtain rfl:i = k:=by simpa using hi
   unfold wpOp;simp only [ho];unfold ED at h;have next:∀a' w',C w'∧ED P ops C Q (pick l ks) a' w'→C w'∧wpAnyH P md ops Q C ks.length (listed.setIfInBounds i true) a' w':=fun a' w' hh =>
    ⟨hh.1,abU l ks _ a' w' hl hB.2 hh.2⟩
   exact Zab2
theorem ZM (hs:Region.noSelect ops = true) (hQ:∀c a d v w,Q (.panic c) (Act.put a d v) w→Q (.panic c) a w) {w:World} (hC:C w):∀(l:List Oper) (js:List Nat) (g:Nat) (listed:Array Bool) (a:Act),l.toArray = ops →
 VH md ops js listed = true→OQ P ops C (fun a'=>wpAnyH P md ops Q C g (zY js listed) a' w) (pick l js) a→wpAnyH P md ops Q C (g+js.length) listed a w
 | l,[],g,listed,a,hl,hB,h=>h
 | l,k :: js,g,listed,a,hl,hB,h=>by
   simp only [VH,Bool.and_eq_true] at hB;obtain ⟨_,o,ho,_⟩:=mem_ready.1 (show k∈Region.ready md ops listed by simpa using hB.1.2);have hlo:l[k]? = some o:=(by rw [← hl] at ho;simpa using ho);simp only [pick,hlo] at h;obtain ⟨v,hy,hn⟩:=h;refine wpAnyH_take ho hs hB.1.1 hB.1.2 (fun c a' w'=>hQ c a' _ v w') hy hC ?_;exact ZM hs hQ hC l js g _ _ hl hB.2 hn
def ixB (ops:Array Oper) (js ks:List Nat):Bool:=Region.noSelect ops&&decide (ks.length+js.length = ops.size)&&VH .any ops js (Array.replicate ops.size false)&&VI .any ops ks (zY js (Array.replicate ops.size false))
theorem nS {id:Nat} {a:Act} {w:World} {l:List Oper} (w0:World) (js ks:List Nat) (hm:P.follows .mixedOrders = true) (hB:ixB l.toArray js ks = true) (hQ:∀c a d v w,Q (.panic c) (Act.put a d v) w→Q (.panic c) a w)
 (hw:Below w0.heap.size w0 w) (h:OQ P l.toArray (Cls w0) (fun a'=>ED P l.toArray (Cls w0) Q (pick l ks) a' w.drew) (pick l js) a):(Code.region id l.toArray true).wp P Q a w:=by
 simp only [ixB,Bool.and_eq_true,decide_eq_true_eq] at hB;obtain ⟨⟨⟨hs,hn⟩,hh⟩,hq⟩:=hB;have hC:Cls w0 w.drew:=aA hw;refine wp_region_held_drew (S:=Cls w0) hm hC fun _=>?_
 have mono:∀(m:List Oper) (b:Act),OQ P l.toArray (Cls w0) (fun a'=>ED P l.toArray (Cls w0) Q (pick l ks) a' w.drew) m b →
     OQ P l.toArray (Cls w0) (fun a'=>wpAnyH P .any l.toArray Q (Cls w0) ks.length (zY js (Array.replicate l.toArray.size false)) a' w.drew) m b:=by
  intro m;induction m with
  | nil=>intro b hb;exact abU (md:=.any) l ks _ b w.drew rfl hq hb
  | cons o m ih =>intro b ⟨v,hy,hb⟩;exact ⟨v,hy,ih _ hb⟩
 have:=ZM (md:=.any) (P:=P) (C:=Cls w0) hs hQ hC l js ks.length (Array.replicate l.toArray.size false) a rfl hh (mono _ _ h);rw [hn] at this;exact this
end
section
variable {P:Program} {l:List Oper} {C:World→Prop} {Q:Exit→Act→World→Prop}
def adq (P:Program) (l:List Oper) (Q:Exit→Act→World→Prop) (C:World→Prop) (n:Nat) (listed:Array Bool) (a:Act) (w:World):Prop:=wpAnyH P .any l.toArray Q C n listed a w
theorem zU {id:Nat} {a:Act} {w:World} (w0:World) (n:Nat) (hm:P.follows .mixedOrders = true) (hn:l.toArray.size = n) (hw:Below w0.heap.size w0 w)
 (h:adq P l Q (Cls w0) n (Array.replicate n false) a w.drew):(Code.region id l.toArray true).wp P Q a w:=by
 subst hn;exact wp_region_held_drew (S:=Cls w0) hm (aA hw) fun _=>h
theorem aX {n:Nat} {listed:Array Bool} {a:Act} {w:World} (i:Nat) {o:Oper} (v:Value) (ho:l[i]? = some o) (hB:(Region.noSelect l.toArray&&Region.free .any l.toArray listed i&&(Region.ready .any l.toArray listed).contains i) = true)
 (hQ:∀c a d v w,Q (.panic c) (Act.put a d v) w→Q (.panic c) a w) (hC:C w) (hy:YieldsIf P l.toArray C o v a) (h:adq P l Q C n (listed.setIfInBounds i true) (a.put o.dst v) w):adq P l Q C (n+1) listed a w:=by
 simp only [Bool.and_eq_true] at hB;exact wpAnyH_take (by simpa using ho) hB.1.1 hB.1.2 hB.2 (fun c a' w'=>hQ c a' _ v w') hy hC h
theorem ald {n:Nat} {listed:Array Bool} {a:Act} {w:World} {i:Nat} {o:Oper} (ho:l[i]? = some o) (hw:Region.wanted o (yielded l.toArray a.tmps) = true)
 (h:∀K:Act→World→Prop,(∀a' w',C w'→adq P l Q C n (listed.setIfInBounds i true) a' w'→K a' w')→o.wp P a w K Q) :
 wpOp P l.toArray Q i (fun a' w'=>C w'∧wpAnyH P .any l.toArray Q C n (listed.setIfInBounds i true) a' w') a w:=by
 unfold wpOp;rw [show l.toArray[i]? = some o by simpa using ho];dsimp only;rw [if_pos hw];exact .inl (h _ fun a' w' h1 h2=>⟨h1,h2⟩)
theorem bP {n:Nat} {listed:Array Bool} {a:Act} {w:World} (i:Nat) {o:Oper} (ho:l[i]? = some o) (hr:Region.ready .any l.toArray listed = [i]) (hw:Region.wanted o (yielded l.toArray a.tmps) = true)
 (h:∀K:Act→World→Prop,(∀a' w',C w'→adq P l Q C n (listed.setIfInBounds i true) a' w'→K a' w')→o.wp P a w K Q):adq P l Q C (n+1) listed a w :=
 wpAnyH_all hr S' fun j hj=>by
  obtain rfl:j = i:=by simpa using hj
  exact ald ho hw h
theorem D7 {n:Nat} {listed:Array Bool} {a:Act} {w:World} (i j:Nat) {o o':Oper} (ho:l[i]? = some o) (ho':l[j]? = some o') (hr:Region.ready .any l.toArray listed = [i,j]) (hw:Region.wanted o (yielded l.toArray a.tmps) = true) (hw':Region.wanted o' (yielded l.toArray a.tmps) = true)
 (h:∀K:Act→World→Prop,(∀a' w',C w'→adq P l Q C n (listed.setIfInBounds i true) a' w'→K a' w')→o.wp P a w K Q)
 (h':∀K:Act→World→Prop,(∀a' w',C w'→adq P l Q C n (listed.setIfInBounds j true) a' w'→K a' w')→o'.wp P a w K Q):adq P l Q C (n+1) listed a w :=
 wpAnyH_all hr S' fun k hk=>by
  simp only [List.mem_cons,List.not_mem_nil,or_false] at hk;rcases hk with rfl | rfl
  ·exact ald ho hw h
  ·exact ald ho' hw' h'
theorem YU {n:Nat} {listed:Array Bool} {a:Act} {w:World} (E:Act→Act→World→Prop) (hE:∀a' w',E a a' w'→Q .normal a' w') (h:(∀a' w',E a a' w'→Q .normal a' w')→adq P l Q C n listed a w):adq P l Q C n listed a w:=h hE
theorem nR {listed:Array Bool} {a:Act} {w:World} (hr:Region.ready .any l.toArray listed = []) (h:Q .normal a w):adq P l Q C 0 listed a w:=wpAnyH_done hr h 0
end
end Go.Proofs.YtnedlmlpeplnfaaGreat
namespace Go.Proofs.YtnedlmlpeplnfaaGreat
open Go.ChangeShapes Go.WideShapes Go.ChangeAt Go.RowKit
set_option linter.unusedVariables false
set_option linter.unusedSimpArgs false
structure DL (P:Program) (t e:TypeId) (z:Value) (size bytes:Nat):Prop where
 ht:P.underlying t = some (.slice e)
 info:(P.info? e).map (fun i=>(i.zero,i.size,i.bytes)) = some (some z,size,bytes)
 hzs:z.cells.size = size
 hsz:0 < size
theorem lS {B size:Nat} {w0 w w':World} {v:Value} {e:TypeId} {n:Nat} {xs:List Value} (hown:w.ownsRow B e size v n xs) (hg:w.grownBy w' v.ownBlock) (hb:Below B w0 w) (hB:B≤w.heap.size):Below B w0 w' :=
 hb.grown hg hB fun k hk=>(hown.lt k hk).1
def B8 (u:UInt8):Value:=.int .u8 (u.toNat:Int)
section
variable {P:Program} {t e:TypeId} {z:Value} {size bytes:Nat}
theorem run_make_full (hE:DL P t e z size bytes) (hby:bytes≤4096) (n:Nat) (hn:n≤2097152) (w:World) :
 (Instr.makeSlice t (.int .i64 (n:Int)) (.int .i64 (n:Int))).run P w = .ok (.slice (some ⟨w.heap.size,0,none⟩) n n) (w.alloc (.cells (madeCells z.cells (n * size)) e)):=by
 obtain ⟨ht,hi0,hzs,hsz⟩:=hE;obtain ⟨i,hi,hz,hsize,hb⟩:=info_parts hi0;have hbb:bytes * n≤4096 * 2097152:=Nat.mul_le_mul hby hn;have h:((i.bytes * n:Nat):Int)≤281474976710656:=by rw [hb];omega
 have hr:=run_make (P:=P) w t e i z ht hi hz .i64 .i64 n n O' O' (by rwa [Int.natCast_mul] at h) O';simp only [Int.toNat_natCast] at hr;rw [hsize] at hr;exact hr
end
def Fill (w:World) (g:Nat) (t:TypeId) (N:Nat) (ds:List Value):Prop:=∃cs:Array Value,w.heap[g]? = some (.cells cs t (0,0))∧cs.size = N∧ds.length≤N∧∀(j:Nat) (u:Value),ds[j]? = some u→cs[j]? = some u
section
variable {w w':World} {g:Nat} {t:TypeId} {N:Nat} {ds:List Value}
theorem Fill.lt (h:Fill w g t N ds):g < w.heap.size:=by
 obtain ⟨cs,h,_⟩:=h;rcases Nat.lt_or_ge g w.heap.size with hlt | hge
 ·exact hlt
 ·rw [Array.getElem?_eq_none hge] at h;cases h
theorem Fill.cell (h:Fill w g t N ds) {i:Nat} (hi:i < N):∃u,w.cell? ⟨g,i,none⟩ = some u:=by
 obtain ⟨cs,h,rfl,_⟩:=h;exact ⟨cs[i],by rw [cell_of_row w g i cs t (0,0) h];exact Array.getElem?_eq_getElem hi⟩
theorem Fill.frozen (h:Fill w g t N ds) (i:Nat):w.frozen? ⟨g,i,none⟩ = false:=by
 obtain ⟨cs,h,_⟩:=h;simp [World.frozen?,h]
theorem Fill.keep (h:Fill w g t N ds) (hk:w'.heap[g]? = w.heap[g]?):Fill w' g t N ds:=by
 obtain ⟨cs,h,r⟩:=h;exact ⟨cs,by rw [hk];exact h,r⟩
theorem Fill.made (w:World) (t:TypeId) (z:Array Value) (N:Nat) (hN:(madeCells z N).size = N):Fill (w.alloc (.cells (madeCells z N) t)) w.heap.size t N [] :=
 ⟨_,heap_alloc_new w _,hN,Nat.zero_le _,fun j u hu=>by simp at hu⟩
theorem Fill.store (h:Fill w g t N ds) (u:Value) (hi:ds.length < N):Fill (w.setCell ⟨g,ds.length,none⟩ u) g t N (ds++[u]):=by
 obtain ⟨cs,h,rfl,hl,hc⟩:=h;refine ⟨cs.setIfInBounds ds.length u,?_,S',by simp;omega,fun j v hv=>?_⟩
 ·simp [World.setCell,Array.getElem?_modify,h]
 ·by_cases hj:j < ds.length
  ·rw [Array.getElem?_setIfInBounds_ne O'];exact hc j v (by rwa [List.getElem?_append_left hj] at hv)
  ·have hjl:j = ds.length:=by
    have:=(List.getElem?_eq_some_iff.1 hv).1;simp at this;omega
   subst hjl;simp at hv;subst hv;rw [Array.getElem?_setIfInBounds_self_of_lt hi]
theorem Fill.gU (h:Fill w g t N ds) {o:Nat} (hd:ds.length = o) (hi:o < N) (u:Value):Fill (w.setCell ⟨g,o,none⟩ u) g t N (ds++[u]):=by
 subst hd;exact h.store u hi
theorem Fill.cells (h:Fill w g t N ds):∀j u,ds[j]? = some u→w.cell? ⟨g,0+j,none⟩ = some u:=by
 obtain ⟨cs,h,_,_,hc⟩:=h;intro j u hu;rw [Nat.zero_add,cell_of_row w g j cs t (0,0) h];exact hc j u hu
end
structure Own {α:Type} [Dat α] (w:World) (B:Nat) (x:α) (cs:List Value) (F:List Nat):Prop where
 rd:rd w x cs F
 nodup:F.Nodup
 base:∀b∈F,B≤b
 plain:∀b∈F,∃ds t,w.heap[b]? = some (.cells ds t (0,0))
section
variable {α:Type} [Dat α] {w w':World} {B:Nat} {x:α} {cs:List Value} {F:List Nat}
theorem Own.lt (h:Own w B x cs F):∀b∈F,b < w.heap.size:=Dat.lt h.rd
theorem Own.keep (h:Own w B x cs F) (hk:∀b∈F,w'.heap[b]? = w.heap[b]?) (hz:w.heap.size≤w'.heap.size):Own w' B x cs F :=
 ⟨Dat.frame h.rd hk hz,h.nodup,h.base,fun b hb=>by rw [hk b hb];exact h.plain b hb⟩
theorem Own.ext (h:Own w B x cs F) (hb:Below w.heap.size w w'):Own w' B x cs F:=h.keep (fun b hb'=>hb.block b (h.lt b hb')) hb.size
theorem Own.alloc (h:Own w B x cs F) (o:Obj):Own (w.alloc o) B x cs F:=h.ext (ak (aj _) o)
theorem Own.setCell (h:Own w B x cs F) {p:Addr} (hp:p.block < B) (u:Value):Own (w.setCell p u) B x cs F :=
 h.keep (fun b hb=>Below.heap_setCell _ _ _ _ (by have:=h.base b hb;omega)) aua
theorem Own.flat (h:Go.Proofs.YtnedlmlpeplnfaaGreat.Dat.rd w x cs []):Own w B x cs []:=⟨h,List.nodup_nil,(fun b hb=>by cases hb),(fun b hb=>by cases hb)⟩
theorem Own.mono (h:Own w B x cs F) {B':Nat} (hB:B'≤B):Own w B' x cs F:=⟨h.rd,h.nodup,fun b hb=>Nat.le_trans hB (h.base b hb),h.plain⟩
end
structure aY {α:Type} [Dat α] (w:World) (B:Nat) (xs:List α) (ds:List Value) (F:List Nat):Prop where
 rd:jo w xs ds F
 nodup:F.Nodup
 base:∀b∈F,B≤b
 plain:∀b∈F,∃ds t,w.heap[b]? = some (.cells ds t (0,0))
section
variable {α:Type} [Dat α] {w w':World} {B:Nat} {xs:List α} {ds:List Value} {F:List Nat}
theorem aY.lt (h:aY w B xs ds F):∀b∈F,b < w.heap.size:=h.rd.lt
theorem aY.nil (w:World) (B:Nat):aY w B ([]:List α) [] []:=⟨⟨rfl,rfl⟩,List.nodup_nil,(fun b hb=>by cases hb),(fun b hb=>by cases hb)⟩
theorem aY.keep (h:aY w B xs ds F) (hk:∀b∈F,w'.heap[b]? = w.heap[b]?) (hz:w.heap.size≤w'.heap.size):aY w' B xs ds F :=
 ⟨h.rd.frame hk hz,h.nodup,h.base,fun b hb=>by rw [hk b hb];exact h.plain b hb⟩
theorem aY.ext (h:aY w B xs ds F) (hb:Below w.heap.size w w'):aY w' B xs ds F:=h.keep (fun b hb'=>hb.block b (h.lt b hb')) hb.size
theorem aY.setCell (h:aY w B xs ds F) {p:Addr} (hp:p.block < B) (u:Value):aY (w.setCell p u) B xs ds F :=
 h.keep (fun b hb=>Below.heap_setCell _ _ _ _ (by have:=h.base b hb;omega)) aua
theorem aY.push (h:aY w B xs ds F) {x:α} {cs:List Value} {G:List Nat} {B':Nat} (hx:Own w B' x cs G) (hB:B≤B') (hF:∀b∈F,b < B'):aY w B (xs++[x]) (ds++cs) (F++G):=by
 refine ⟨h.rd.append (.single hx.rd),?_,?_,?_⟩
 ·rw [List.nodup_append];exact ⟨h.nodup,hx.nodup,fun a ha b hb=>by have:=hF a ha;have:=hx.base b hb;omega⟩
 ·intro b hb;rcases List.mem_append.1 hb with hb | hb
  ·exact h.base b hb
  ·exact Nat.le_trans hB (hx.base b hb)
 ·intro b hb;rcases List.mem_append.1 hb with hb | hb
  ·exact h.plain b hb
  ·exact hx.plain b hb
theorem Own.Ep {t:TypeId} {g N c:Nat} (hf:Fill w g t N ds) (h:aY w (g+1) xs ds F) (hc:xs.length≤c) (hm:c≤maxLen):Own w g xs [.slice (some ⟨g,0,none⟩) xs.length c] (g :: F):=by
 refine ⟨⟨_,c,F,ds,rfl,hc,hm,h.rd,.inr ⟨g,0,rfl,rfl,hf.lt,hf.cells⟩⟩,?_,?_,?_⟩
 ·rw [List.nodup_cons];exact ⟨fun hb=>by have:=h.base g hb;omega,h.nodup⟩
 ·intro b hb;rcases List.mem_cons.1 hb with rfl | hb
  ·exact Nat.le_refl _
  ·have:=h.base b hb;omega
 ·intro b hb;rcases List.mem_cons.1 hb with rfl | hb
  ·obtain ⟨cs,hcs,_⟩:=hf;exact ⟨cs,t,hcs⟩
  ·exact h.plain b hb
theorem Own.oJ {e:TypeId} {v:Value} (h0:w.ownsRow B e (Dat.size α) v xs.length ds) (h:aY w B xs ds F) (hne:∀g,v.ownBlock = some g→g∉F):∃A c G,v = .slice A xs.length c∧Own w B xs [.slice A xs.length c] G:=by
 rcases h0 with ⟨hl,⟨rfl,hn⟩ | ⟨g,cap,cur,rfl,hb,hh,hle,hm,hcs,ht⟩⟩
 ·obtain rfl:xs = []:=List.eq_nil_of_length_eq_zero hn;exact ⟨none,0,[],rfl,Sl.nil w none 0 (Nat.zero_le _),List.nodup_nil,(fun b hb=>by cases hb),(fun b hb=>by cases hb)⟩
 ·have hg:g < w.heap.size:=by
   rcases Nat.lt_or_ge g w.heap.size with hlt | hge
   ·exact hlt
   ·rw [Array.getElem?_eq_none hge] at hh;cases hh
  refine ⟨_,cap,g :: F,rfl,⟨_,cap,F,ds,rfl,hle,hm,h.rd,.inr ⟨g,0,rfl,rfl,hg,fun j u hu=>?_⟩⟩,?_,?_,?_⟩
  ·rw [Nat.zero_add,cell_of_row w g j cur e (0,0) hh];exact Zab9
  ·rw [List.nodup_cons];exact ⟨hne g rfl,h.nodup⟩
  ·intro b hb';rcases List.mem_cons.1 hb' with rfl | hb'
   ·exact hb
   ·exact h.base b hb'
  ·intro b hb';rcases List.mem_cons.1 hb' with rfl | hb'
   ·exact ⟨cur,e,hh⟩
   ·exact h.plain b hb'
end
end Go.Proofs.YtnedlmlpeplnfaaGreat
