/- An argument that reads as data, opened: the readings of Kit out of the form's own. -/
import Derived.Test.YtkbkikggodlbbaaGreatKit
import Derived.Laws.MakeOwn
import Derived.Laws.IdiomStrings
namespace Go.Proofs.YtkbkikggodlbbaaGreat
open Go.ChangeShapes Go.WideShapes Go.ChangeAt Go.RowKit
set_option linter.unusedVariables false
set_option linter.unusedSimpArgs false
def Opens (P:Program) (t:TypeId) (α:Type) [Dat α]:Prop:=∀(H:Type) (enc:TypeId × Value→H) (w:World) (base fuel:Nat) (spare:Nat→Bool) (held:Bool) (cs:List Value) (d:DataW H × List MemPlace),
 DataW.trod enc P w base spare held fuel t cs = some d→∃(x:α) (F:List Nat),rd w x cs F
theorem uQ {P:Program} {t:TypeId} (ht:P.underlying t = some (.int .i64)):Opens P t Int:=by
 intro H enc w base fuel spare held cs d h;obtain ⟨n,rfl,_,hw⟩:=DataW.trod_int ht h;refine ⟨n,[],rfl,rfl,?_⟩;have:=hw;simp [Lit.wf,IntKind.min,IntKind.max,IntKind.signed,IntKind.bits] at this;exact this
theorem agT {P:Program} {t:TypeId} (ht:P.underlying t = some .bool):Opens P t Bool:=by
 intro H enc w base fuel spare held cs d h;obtain ⟨n,rfl,_⟩:=DataW.trod_bool ht h;exact ⟨n,[],rfl,rfl⟩
theorem uS {P:Program} {t:TypeId} (ht:P.underlying t = some .string):Opens P t ByteArray:=by
 intro H enc w base fuel spare held cs d h;obtain ⟨n,rfl,_,hs⟩:=DataW.trod_string ht h;exact ⟨n,[],rfl,rfl,hs⟩
def FO (P:Program) (fs:List Field) (off:Nat) (β:Type) [Dat β]:Prop:=∀(H:Type) (enc:TypeId × Value→H) (w:World) (base n:Nat) (spare:Nat→Bool) (held:Bool) (cs:List Value) (xs:List (DataW H × List MemPlace)),
 cs.length = off+Dat.size β→xs.length = fs.length→(∀(i:Nat) (f:Field),fs[i]? = some f→DataW.trod enc P w base spare held n f.type ((cs.drop f.offset).take (P.cellsOf f.type)) = xs[i]?)→∃(x:β) (F:List Nat),rd w x (cs.drop off) F
theorem Qy {P:Program} {f:Field} {off:Nat} {β:Type} [Dat β] (ho:f.offset = off) (hc:P.cellsOf f.type = Dat.size β) (h:Opens P f.type β):FO P [f] off β:=by
 intro H enc w base n spare held cs xs hl hx hf;have h0:=hf 0 f rfl;have hlt:0 < xs.length:=by rw [hx];simp
 rw [List.getElem?_eq_getElem hlt,ho,hc,List.take_of_length_le (by simp;omega)] at h0;exact h H enc w base n spare held _ _ h0
theorem sF {P:Program} {f:Field} {fs:List Field} {off:Nat} {α β:Type} [Dat α] [Dat β] (ho:f.offset = off) (hc:P.cellsOf f.type = Dat.size α) (h:Opens P f.type α) (hr:FO P fs (off+Dat.size α) β):FO P (f :: fs) off (α × β):=by
 intro H enc w base n spare held cs xs hl hx hf;have hl':cs.length = off+(Dat.size α+Dat.size β):=hl;match xs,hx with
 | y :: ys,hx =>
   have h0:=hf 0 f rfl;simp only [List.getElem?_cons_zero] at h0;rw [ho,hc] at h0;obtain ⟨x1,F1,h1⟩:=h H enc w base n spare held _ _ h0
   obtain ⟨x2,F2,h2⟩:=hr H enc w base n spare held cs ys O' (by simpa using hx) (fun i f' hi=>by
    have:=hf (i+1) f' avv
    simpa using this)
   refine ⟨(x1,x2),F1++F2,_,_,F1,F2,?_,rfl,h1,h2⟩;conv=>lhs;rw [← List.take_append_drop (Dat.size α) (cs.drop off)]
   rw [List.drop_drop]
theorem xU {P:Program} {t:TypeId} {fs:List Field} {β:Type} [Dat β] (ht:P.underlying t = some (.struct fs.toArray)) (hC:P.cellsOf t = Dat.size β) (hf:FO P fs 0 β):Opens P t β:=by
 intro H enc w base fuel spare held cs d h;obtain ⟨xs,n,_,_,hl,hx,hg⟩:=DataW.trod_struct ht h;have:=hf H enc w base n spare held cs xs O' (by simpa using hx) (fun i f hi=>hg i f avv);simpa using this
theorem ET {P:Program} {t:TypeId} {α β:Type} [Dat β] (f:α→β) (g:β→α) (hfg:∀b,f (g b) = b) (h:Opens P t β):@Opens P t α (Dat.iso f):=by
 intro H enc w base fuel spare held cs d hd;obtain ⟨x,F,hx⟩:=h H enc w base fuel spare held cs d hd;exact ⟨g x,F,by show rd w (f (g x)) cs F;rw [hfg];exact hx⟩
theorem yH {P:Program} {t e:TypeId} {α:Type} [Dat α] (ht:P.underlying t = some (.slice e)) (hC:P.cellsOf e = Dat.size α) (h:Opens P e α):Opens P t (List α):=by
 intro H enc w base fuel spare held cs d hd;rcases Deep.open_slice ht hd with ⟨rfl,_⟩ | ⟨a,len,cap,m,n,D,Pl,rfl,hb,hl,hm,hmm,hx,hi⟩
 ·exact ⟨[],[],Sl.nil w none 0 (Nat.zero_le _)⟩
 ·rcases Nat.eq_zero_or_pos len with rfl | hpos
  ·exact ⟨[],[],Sl.nil w (some a) cap hm⟩
  ·have hlm:len≤m:=(by rw [hmm];split <;> omega);have hpos':=Dat.pos (α:=α);have hsp:a.spot = none∧a.block < w.heap.size:=by
    obtain ⟨cs',hc,_⟩:=hi 0 O';obtain ⟨_,hcl,hat⟩:=World.cells?_some hc;have h0:=hat (i:=0) O';simp only [Nat.zero_mul] at h0;have e0:(a.add 0).add 0 = a:=(by simp [Addr.add]);rw [e0] at h0;rw [List.getElem?_eq_getElem O'] at h0;refine ⟨?_,World.block_lt_of_cell? w a h0⟩;unfold World.cell? at h0;split at h0
    ·split at h0
     ·cases h0
     ·rename_i hs;simpa using hs
    ·cases h0
   obtain ⟨b,o,sp⟩:=a;obtain ⟨rfl,hblt⟩:=hsp;have step:∀k,k≤len→∃(xs:List α) (ds:List Value) (G:List Nat),xs.length = k∧jo w xs ds G∧∀j u,ds[j]? = some u→w.cell? ⟨b,o+j,none⟩ = some u:=by
    intro k;induction k with
    | zero=>exact fun _=>⟨[],[],[],rfl,⟨rfl,rfl⟩,fun j u hu=>by simp at hu⟩
    | succ k ih =>
      intro hk;obtain ⟨xs,ds,G,hxl,hr,hc⟩:=ih O';obtain ⟨cs',hcs,htr⟩:=hi k O';obtain ⟨x,F,hxr⟩:=h H enc w base n spare held cs' _ htr;obtain ⟨_,hcl,hat⟩:=World.cells?_some hcs;refine ⟨xs++[x],ds++cs',G++F,by simp [hxl],hr.append (.single hxr),fun j u hu=>?_⟩;have hdl:=hr.len;rw [hxl] at hdl;by_cases hj:j < ds.length
      ·exact hc j u (by rwa [List.getElem?_append_left hj] at hu)
      ·rw [List.getElem?_append_right O'] at hu;have hj':=(List.getElem?_eq_some_iff.1 hu).1;have h1:=hat (i:=j - ds.length) O';rw [hu,hC] at h1;have e1:((⟨b,o,none⟩:Addr).add (k * Dat.size α)).add (j - ds.length) = ⟨b,o+j,none⟩:=by
        rw [Deep.add_add];unfold Addr.add;split
        ·simp <;> omega
        ·simp <;> omega
       rw [e1] at h1;exact h1
   obtain ⟨xs,ds,G,hxl,hr,hc⟩:=step len (Nat.le_refl _);subst hxl;exact ⟨xs,b :: G,_,cap,G,ds,rfl,hl,hm,hr,.inr ⟨b,o,rfl,rfl,hblt,hc⟩⟩
theorem ZT:Opens Tryz.prog 130 (List ByteArray):=yH Tryz.underlying130 U' (uS Tryz.underlying9)
theorem amz:Opens Tryz.prog 128 Label:=ET (fun x:Label=>(x.key,x.value)) (fun p=>⟨p.1,p.2⟩) (fun _=>rfl) (xU Tryz.underlying128 U' (sF rfl U' (uS Tryz.underlying9) (Qy rfl U' (uS Tryz.underlying9))))
theorem VA:Opens Tryz.prog 28 (List Label):=yH Tryz.underlying28 U' amz
theorem aox:Opens Tryz.prog 132 Need:=ET (fun x:Need=>(x.key,x.op,x.values)) (fun p=>⟨p.1,p.2.1,p.2.2⟩) (fun _=>rfl) (xU Tryz.underlying132 U' (sF rfl U' (uS Tryz.underlying9) (sF rfl U' (uQ Tryz.underlying3) (Qy rfl U' ZT))))
theorem amA:Opens Tryz.prog 29 (List Need):=yH Tryz.underlying29 U' aox
theorem amB:Opens Tryz.prog 138 iU:=ET (fun x:iU=>(x.key,x.value,x.effect)) (fun p=>⟨p.1,p.2.1,p.2.2⟩) (fun _=>rfl) (xU Tryz.underlying138 U' (sF rfl U' (uS Tryz.underlying9) (sF rfl U' (uS Tryz.underlying9) (Qy rfl U' (uQ Tryz.underlying3)))))
theorem akR:Opens Tryz.prog 33 (List iU):=yH Tryz.underlying33 U' amB
theorem aeE:Opens Tryz.prog 135 bH:=ET (fun x:bH=>(x.key,x.equal,x.value,x.effect)) (fun p=>⟨p.1,p.2.1,p.2.2.1,p.2.2.2⟩) (fun _=>rfl) (xU Tryz.underlying135 U' (sF rfl U' (uS Tryz.underlying9) (sF rfl U' (agT Tryz.underlying4) (sF rfl U' (uS Tryz.underlying9) (Qy rfl U' (uQ Tryz.underlying3))))))
theorem adf:Opens Tryz.prog 30 (List bH):=yH Tryz.underlying30 U' aeE
theorem Aw:Opens Tryz.prog 32 nI:=ET (fun x:nI=>(x.name,x.labels,x.cpu,x.mem,x.rank,x.needs,x.tolerances)) (fun p=>⟨p.1,p.2.1,p.2.2.1,p.2.2.2.1,p.2.2.2.2.1,p.2.2.2.2.2.1,p.2.2.2.2.2.2⟩) (fun _=>rfl) (xU Tryz.underlying32 U' (sF rfl U' (uS Tryz.underlying9) (sF rfl U' VA (sF rfl U' (uQ Tryz.underlying3) (sF rfl U' (uQ Tryz.underlying3) (sF rfl U' (uQ Tryz.underlying3) (sF rfl U' amA (Qy rfl U' adf))))))))
theorem aaB:Opens Tryz.prog 35 Host:=ET (fun x:Host=>(x.name,x.labels,x.cpu,x.mem,x.slots,x.aT)) (fun p=>⟨p.1,p.2.1,p.2.2.1,p.2.2.2.1,p.2.2.2.2.1,p.2.2.2.2.2⟩) (fun _=>rfl) (xU Tryz.underlying35 U' (sF rfl U' (uS Tryz.underlying9) (sF rfl U' VA (sF rfl U' (uQ Tryz.underlying3) (sF rfl U' (uQ Tryz.underlying3) (sF rfl U' (uQ Tryz.underlying3) (Qy rfl U' akR)))))))
theorem amC:Opens Tryz.prog 22 (List Host):=yH Tryz.underlying22 U' aaB
theorem TI:Opens Tryz.prog 25 rZ:=ET (fun x:rZ=>(x.pack,x.spread,x.soft)) (fun p=>⟨p.1,p.2.1,p.2.2⟩) (fun _=>rfl) (xU Tryz.underlying25 U' (sF rfl U' (uQ Tryz.underlying3) (sF rfl U' (uQ Tryz.underlying3) (Qy rfl U' (uQ Tryz.underlying3)))))
theorem akS:Opens Tryz.prog 88 Placed:=ET (fun x:Placed=>(x.aS,x.on,x.seq)) (fun p=>⟨p.1,p.2.1,p.2.2⟩) (fun _=>rfl) (xU Tryz.underlying88 U' (sF rfl U' Aw (sF rfl U' (uS Tryz.underlying9) (Qy rfl U' (uQ Tryz.underlying3)))))
theorem ain:Opens Tryz.prog 23 (List Placed):=yH Tryz.underlying23 U' akS
theorem kR:Opens Tryz.prog 27 aU:=ET (fun x:aU=>(x.hosts,x.au,x.next,x.weights)) (fun p=>⟨p.1,p.2.1,p.2.2.1,p.2.2.2⟩) (fun _=>rfl) (xU Tryz.underlying27 U' (sF rfl U' amC (sF rfl U' ain (sF rfl U' (uQ Tryz.underlying3) (Qy rfl U' TI)))))
theorem agU:Opens Tryz.prog 37 Manifest:=ET (fun x:Manifest=>(x.kind,x.aS,x.host)) (fun p=>⟨p.1,p.2.1,p.2.2⟩) (fun _=>rfl) (xU Tryz.underlying37 U' (sF rfl U' (uQ Tryz.underlying3) (sF rfl U' Aw (Qy rfl U' aaB))))
structure DL (P:Program) (t e:TypeId) (z:Value) (size bytes:Nat):Prop where
 ht:P.underlying t = some (.slice e)
 info:(P.info? e).map (fun i=>(i.zero,i.size,i.bytes)) = some (some z,size,bytes)
 hzs:z.cells.size = size
 hsz:0 < size
theorem lS {B size:Nat} {w0 w w':World} {v:Value} {e:TypeId} {n:Nat} {xs:List Value} (hown:w.ownsRow B e size v n xs) (hg:w.grownBy w' v.ownBlock) (hb:Below B w0 w) (hB:B≤w.heap.size):Below B w0 w' :=
 hb.grown hg hB fun k hk=>(hown.lt k hk).1
def B8 (u:UInt8):Value:=.int .u8 (u.toNat:Int)
section
variable {P:Program} {t e:TypeId} {z:Value} {size bytes:Nat}
theorem lC (hE:DL P t e z size bytes) {ops:Array Oper} {rest:List Oper} {o:Oper} {a:Act} {Q:Exit→Act→World→Prop} (hgd:o.guard = none) (s x:Operand)
 (ho:o.op = .call { callee:=.builtin .append,args:=#[s,x],argTypes:=#[t,t] })
 (w:World) (base:Nat) (v:Value) (n:Nat) (xs:List Value) (hown:w.ownsRow base e size v n xs) (hs:a.eval s = v)
 (cs:List Value) (hx:a.eval x = .slice (some ⟨w.heap.size,0,none⟩) 1 1) (hl:cs.length = size) (h1:∀u∈cs,u.oneCell' = true)
 (hn:n≤2097152) (hby:bytes≤4096) (hbase:base≤w.heap.size)
 (h:∀v' w',w'.ownsRow base e size v' (n+1) (xs++cs)→w.grownBy w' v.ownBlock→w.heap.size+1≤w'.heap.size→wpList P ops Q rest (a.put o.dst v') w'):wpList P ops Q (o :: rest) a (w.alloc (.cells cs.toArray e)):=by
 obtain ⟨ht,hi0,hzs,hsz⟩:=hE;obtain ⟨i,hi,hz,hsize,hb⟩:=info_parts hi0;have hbb:(n+1) * bytes≤2097153 * 4096:=Nat.mul_le_mul O' hby;refine wpList_append_own (w.alloc (.cells cs.toArray e)) hgd s x t ho base e i z size bytes ht hi hz hsize hb hzs hsz v n xs hs (hown.alloc _) ⟨w.heap.size,0,none⟩ 1 1 cs hx O' ?_ h1 at6 O' (by simp;omega) ?_
 ·exact Zacg
 ·intro v' w' hown' hg _;refine h v' w' hown' ⟨hg.os,hg.tape,hg.output,Nat.le_trans S' hg.size,fun k hk hne=>?_⟩ avU;rw [hg.block k (by simp;omega) hne];exact Below.heap_alloc _ _ _ hk
theorem run_make_full (hE:DL P t e z size bytes) (hby:bytes≤4096) (n:Nat) (hn:n≤2097152) (w:World) :
 (Instr.makeSlice t (.int .i64 (n:Int)) (.int .i64 (n:Int))).run P w = .ok (.slice (some ⟨w.heap.size,0,none⟩) n n) (w.alloc (.cells (madeCells z.cells (n * size)) e)):=by
 obtain ⟨ht,hi0,hzs,hsz⟩:=hE;obtain ⟨i,hi,hz,hsize,hb⟩:=info_parts hi0;have hbb:bytes * n≤4096 * 2097152:=Nat.mul_le_mul hby hn;have h:((i.bytes * n:Nat):Int)≤281474976710656:=by rw [hb];omega
 have hr:=run_make (P:=P) w t e i z ht hi hz .i64 .i64 n n O' O' (by rwa [Int.natCast_mul] at h) O';simp only [Int.toNat_natCast] at hr;rw [hsize] at hr;exact hr
end
def Fill (w:World) (g:Nat) (t:TypeId) (N:Nat) (ds:List Value):Prop:=∃cs:Array Value,w.heap[g]? = some (.cells cs t (0,0))∧cs.size = N∧ds.length≤N∧∀(j:Nat) (u:Value),ds[j]? = some u→cs[j]? = some u
section
variable {w w':World} {g:Nat} {t:TypeId} {N:Nat} {ds:List Value}
theorem Fill.lt (h:Fill w g t N ds):g < w.heap.size:=by
 obtain ⟨cs,h,_⟩:=h;rcases Nat.lt_or_ge g w.heap.size with hlt | hge
 ·exact hlt
 ·rw [Array.getElem?_eq_none hge] at h;cases h
theorem Fill.cell (h:Fill w g t N ds) {i:Nat} (hi:i < N):∃u,w.cell? ⟨g,i,none⟩ = some u:=by
 obtain ⟨cs,h,rfl,_⟩:=h;exact ⟨cs[i],by rw [cell_of_row w g i cs t (0,0) h];exact Array.getElem?_eq_getElem hi⟩
theorem Fill.frozen (h:Fill w g t N ds) (i:Nat):w.frozen? ⟨g,i,none⟩ = false:=by
 obtain ⟨cs,h,_⟩:=h;simp [World.frozen?,h]
theorem Fill.keep (h:Fill w g t N ds) (hk:w'.heap[g]? = w.heap[g]?):Fill w' g t N ds:=by
 obtain ⟨cs,h,r⟩:=h;exact ⟨cs,by rw [hk];exact h,r⟩
theorem Fill.made (w:World) (t:TypeId) (z:Array Value) (N:Nat) (hN:(madeCells z N).size = N):Fill (w.alloc (.cells (madeCells z N) t)) w.heap.size t N [] :=
 ⟨_,heap_alloc_new w _,hN,Nat.zero_le _,fun j u hu=>by simp at hu⟩
theorem Fill.store (h:Fill w g t N ds) (u:Value) (hi:ds.length < N):Fill (w.setCell ⟨g,ds.length,none⟩ u) g t N (ds++[u]):=by
 obtain ⟨cs,h,rfl,hl,hc⟩:=h;refine ⟨cs.setIfInBounds ds.length u,?_,S',by simp;omega,fun j v hv=>?_⟩
 ·simp [World.setCell,Array.getElem?_modify,h]
 ·by_cases hj:j < ds.length
  ·rw [Array.getElem?_setIfInBounds_ne O'];exact hc j v (by rwa [List.getElem?_append_left hj] at hv)
  ·have hjl:j = ds.length:=by
    have:=(List.getElem?_eq_some_iff.1 hv).1;simp at this;omega
   subst hjl;simp at hv;subst hv;rw [Array.getElem?_setIfInBounds_self_of_lt hi]
theorem Fill.gU (h:Fill w g t N ds) {o:Nat} (hd:ds.length = o) (hi:o < N) (u:Value):Fill (w.setCell ⟨g,o,none⟩ u) g t N (ds++[u]):=by
 subst hd;exact h.store u hi
theorem Fill.cells (h:Fill w g t N ds):∀j u,ds[j]? = some u→w.cell? ⟨g,0+j,none⟩ = some u:=by
 obtain ⟨cs,h,_,_,hc⟩:=h;intro j u hu;rw [Nat.zero_add,cell_of_row w g j cs t (0,0) h];exact hc j u hu
end
structure Own {α:Type} [Dat α] (w:World) (B:Nat) (x:α) (cs:List Value) (F:List Nat):Prop where
 rd:rd w x cs F
 nodup:F.Nodup
 base:∀b∈F,B≤b
 plain:∀b∈F,∃ds t,w.heap[b]? = some (.cells ds t (0,0))
section
variable {α:Type} [Dat α] {w w':World} {B:Nat} {x:α} {cs:List Value} {F:List Nat}
theorem Own.lt (h:Own w B x cs F):∀b∈F,b < w.heap.size:=Dat.lt h.rd
theorem Own.keep (h:Own w B x cs F) (hk:∀b∈F,w'.heap[b]? = w.heap[b]?) (hz:w.heap.size≤w'.heap.size):Own w' B x cs F :=
 ⟨Dat.frame h.rd hk hz,h.nodup,h.base,fun b hb=>by rw [hk b hb];exact h.plain b hb⟩
theorem Own.ext (h:Own w B x cs F) (hb:Below w.heap.size w w'):Own w' B x cs F:=h.keep (fun b hb'=>hb.block b (h.lt b hb')) hb.size
theorem Own.alloc (h:Own w B x cs F) (o:Obj):Own (w.alloc o) B x cs F:=h.ext (ak (aj _) o)
theorem Own.setCell (h:Own w B x cs F) {p:Addr} (hp:p.block < B) (u:Value):Own (w.setCell p u) B x cs F :=
 h.keep (fun b hb=>Below.heap_setCell _ _ _ _ (by have:=h.base b hb;omega)) aua
theorem Own.flat (h:Go.Proofs.YtkbkikggodlbbaaGreat.Dat.rd w x cs []):Own w B x cs []:=⟨h,List.nodup_nil,(fun b hb=>by cases hb),(fun b hb=>by cases hb)⟩
theorem Own.mono (h:Own w B x cs F) {B':Nat} (hB:B'≤B):Own w B' x cs F:=⟨h.rd,h.nodup,fun b hb=>Nat.le_trans hB (h.base b hb),h.plain⟩
end
structure aY {α:Type} [Dat α] (w:World) (B:Nat) (xs:List α) (ds:List Value) (F:List Nat):Prop where
 rd:jo w xs ds F
 nodup:F.Nodup
 base:∀b∈F,B≤b
 plain:∀b∈F,∃ds t,w.heap[b]? = some (.cells ds t (0,0))
section
variable {α:Type} [Dat α] {w w':World} {B:Nat} {xs:List α} {ds:List Value} {F:List Nat}
theorem aY.lt (h:aY w B xs ds F):∀b∈F,b < w.heap.size:=h.rd.lt
theorem aY.nil (w:World) (B:Nat):aY w B ([]:List α) [] []:=⟨⟨rfl,rfl⟩,List.nodup_nil,(fun b hb=>by cases hb),(fun b hb=>by cases hb)⟩
theorem aY.keep (h:aY w B xs ds F) (hk:∀b∈F,w'.heap[b]? = w.heap[b]?) (hz:w.heap.size≤w'.heap.size):aY w' B xs ds F :=
 ⟨h.rd.frame hk hz,h.nodup,h.base,fun b hb=>by rw [hk b hb];exact h.plain b hb⟩
theorem aY.ext (h:aY w B xs ds F) (hb:Below w.heap.size w w'):aY w' B xs ds F:=h.keep (fun b hb'=>hb.block b (h.lt b hb')) hb.size
theorem aY.setCell (h:aY w B xs ds F) {p:Addr} (hp:p.block < B) (u:Value):aY (w.setCell p u) B xs ds F :=
 h.keep (fun b hb=>Below.heap_setCell _ _ _ _ (by have:=h.base b hb;omega)) aua
theorem aY.push (h:aY w B xs ds F) {x:α} {cs:List Value} {G:List Nat} {B':Nat} (hx:Own w B' x cs G) (hB:B≤B') (hF:∀b∈F,b < B'):aY w B (xs++[x]) (ds++cs) (F++G):=by
 refine ⟨h.rd.append (.single hx.rd),?_,?_,?_⟩
 ·rw [List.nodup_append];exact ⟨h.nodup,hx.nodup,fun a ha b hb=>by have:=hF a ha;have:=hx.base b hb;omega⟩
 ·intro b hb;rcases List.mem_append.1 hb with hb | hb
  ·exact h.base b hb
  ·exact Nat.le_trans hB (hx.base b hb)
 ·intro b hb;rcases List.mem_append.1 hb with hb | hb
  ·exact h.plain b hb
  ·exact hx.plain b hb
theorem Own.Ep {t:TypeId} {g N c:Nat} (hf:Fill w g t N ds) (h:aY w (g+1) xs ds F) (hc:xs.length≤c) (hm:c≤maxLen):Own w g xs [.slice (some ⟨g,0,none⟩) xs.length c] (g :: F):=by
 refine ⟨⟨_,c,F,ds,rfl,hc,hm,h.rd,.inr ⟨g,0,rfl,rfl,hf.lt,hf.cells⟩⟩,?_,?_,?_⟩
 ·rw [List.nodup_cons];exact ⟨fun hb=>by have:=h.base g hb;omega,h.nodup⟩
 ·intro b hb;rcases List.mem_cons.1 hb with rfl | hb
  ·exact Nat.le_refl _
  ·have:=h.base b hb;omega
 ·intro b hb;rcases List.mem_cons.1 hb with rfl | hb
  ·obtain ⟨cs,hcs,_⟩:=hf;exact ⟨cs,t,hcs⟩
  ·exact h.plain b hb
theorem Own.oJ {e:TypeId} {v:Value} (h0:w.ownsRow B e (Dat.size α) v xs.length ds) (h:aY w B xs ds F) (hne:∀g,v.ownBlock = some g→g∉F):∃A c G,v = .slice A xs.length c∧Own w B xs [.slice A xs.length c] G:=by
 rcases h0 with ⟨hl,⟨rfl,hn⟩ | ⟨g,cap,cur,rfl,hb,hh,hle,hm,hcs,ht⟩⟩
 ·obtain rfl:xs = []:=List.eq_nil_of_length_eq_zero hn;exact ⟨none,0,[],rfl,Sl.nil w none 0 (Nat.zero_le _),List.nodup_nil,(fun b hb=>by cases hb),(fun b hb=>by cases hb)⟩
 ·have hg:g < w.heap.size:=by
   exact Zadj
  refine ⟨_,cap,g :: F,rfl,⟨_,cap,F,ds,rfl,hle,hm,h.rd,.inr ⟨g,0,rfl,rfl,hg,fun j u hu=>?_⟩⟩,?_,?_,?_⟩
  ·rw [Nat.zero_add,cell_of_row w g j cur e (0,0) hh];exact Zacs
  ·rw [List.nodup_cons];exact ⟨hne g rfl,h.nodup⟩
  ·intro b hb';rcases List.mem_cons.1 hb' with rfl | hb'
   ·exact hb
   ·exact h.base b hb'
  ·intro b hb';rcases List.mem_cons.1 hb' with rfl | hb'
   ·exact ⟨cur,e,hh⟩
   ·exact h.plain b hb'
end
end Go.Proofs.YtkbkikggodlbbaaGreat
