/- Rows: append of a whole slice; a row as a full block. No condition. -/
import Derived.Test.YtkjeocdobidadaaGreatDeed
import Derived.Deep.Upon
import Derived.Deep.AppendSrc
import Derived.Test.YtkjeocdobidadaaGreatData
import Derived.Lib.SliceRun
import Derived.Test.YtkjeocdobidadaaGreatMark
namespace Go.Proofs.YtkjeocdobidadaaGreat
open Go.ChangeShapes Go.WideShapes Go.ChangeAt Go.RowKit
set_option linter.unusedVariables false
set_option linter.unusedSimpArgs false
theorem mY {w:World} {B e size n:Nat} {v:Value} {xs:List Value} (h:w.ownsRow B e size v n xs):∃A c,v = .slice A n c:=by
 rcases h.2 with ⟨rfl,hn⟩ | ⟨g,cap,cur,rfl,_⟩
 ·subst hn;exact ⟨none,0,rfl⟩
 ·exact ⟨_,_,rfl⟩
theorem EJ {w:World} {B e size n c i:Nat} {v u:Value} {xs:List Value} (h:w.ownsRow B e size v n xs) (hc:∀g,v.ownBlock = some g→g≠c):(w.setCell ⟨c,i,none⟩ u).ownsRow B e size v n xs :=
 h.kept (row:=some c) ⟨rfl,rfl,rfl,by simp [World.setCell],fun k hk hne=>Below.heap_setCell _ _ _ _ (by intro e;apply hne;rw [e])⟩ (by
   by_cases hv:v.ownBlock = some c
   ·exact absurd rfl (hc c hv)
   ·exact .inr hv)
section
variable {α:Type} [Dat α]
theorem aY.afm {w w':World} {B B5 e size n:Nat} {v v':Value} {xs:List α} {ds us cs:List Value} {F G:List Nat} {x:α} (row:w.ownsRow B e size v n us) (hcs:aY w B xs ds F) (hne:∀g,v.ownBlock = some g→g∉F)
 (hx:Own w B5 x cs G) (h5:B≤B5) (hv5:∀g,v.ownBlock = some g→g < B5) (hF:∀y∈F,y < B5) (hg:w.grownBy w' v.ownBlock) (hat:v'.ownBlock = v.ownBlock∨v'.ownBlock = some (w.heap.size+1)) :
 aY w' B (xs++[x]) (ds++cs) (F++G)∧∀g,v'.ownBlock = some g→g∉F++G:=by
 have h1:=hcs.push hx h5 hF;have hno:∀g,v.ownBlock = some g→g∉F++G:=fun g hv hm=>by
  rcases List.mem_append.1 hm with hm | hm
  ·exact hne g hv hm
  ·have:=hx.base g hm;have:=hv5 g hv;omega
 refine ⟨h1.keep (fun y hy=>hg.block y (h1.lt y hy) (fun hv=>hno y hv.symm hy)) hg.size,fun g hv hm=>?_⟩;rcases hat with hat | hat
 ·exact hno g (hat.symm.trans hv) hm
 ·have h2:=h1.lt g hm;rw [hat] at hv;injection hv with hv;omega
end
theorem Qb {P:Program} {t e:TypeId} {z:Value} {size bytes:Nat} (hE:DL P t e z size bytes) {o:Oper} {a:Act} {K:Act→World→Prop} {Q:Exit→Act→World→Prop} (s x:Operand)
 (ho:o.op = .call { callee:=.builtin .append,args:=#[s,x],argTypes:=#[t,t] })
 (w:World) (base:Nat) (v:Value) (n:Nat) (xs:List Value) (hown:w.ownsRow base e size v n xs) (hs:a.eval s = v)
 (cs:List Value) (hx:a.eval x = .slice (some ⟨w.heap.size,0,none⟩) 1 1) (hl:cs.length = size) (h1:∀u∈cs,u.oneCell' = true)
 (hn:n≤2097152) (hby:bytes≤4096) (hbase:base≤w.heap.size)
 (h:∀v' w',w'.ownsRow base e size v' (n+1) (xs++cs)→w.grownBy w' v.ownBlock→w.heap.size+1≤w'.heap.size→(v'.ownBlock = v.ownBlock∨v'.ownBlock = some (w.heap.size+1))→K (a.put o.dst v') w'):o.wp P a (w.alloc (.cells cs.toArray e)) K Q:=by
 obtain ⟨ht,hi0,hzs,hsz⟩:=hE;obtain ⟨i,hi,hz,hsize,hb⟩:=info_parts hi0;have hbb:(n+1) * bytes≤2097153 * 4096:=Nat.mul_le_mul O' hby;have hnews:∀j u,cs[j]? = some u→(w.alloc (.cells cs.toArray e)).cell? ((⟨w.heap.size,0,none⟩:Addr).add j) = some u:=by exact Zacn
 obtain ⟨v',w',hr,h2,h3,h4,h5⟩:=run_append_own_at (P:=P) (w.alloc (.cells cs.toArray e)) base t o.type e i z size bytes ht hi hz hsize hb hzs hsz v n xs (hown.alloc _) ⟨w.heap.size,0,none⟩ 1 1 cs O' hnews h1 at6 O' (by simp;omega);unfold Oper.wp execOp;simp only [ho,resolve,invoke,builtin,Sem.run_bind,Sem.run_pure,Result.andThen_ok,List.map_toArray,List.map_cons,List.map_nil,hs,hx,hr];refine h v' w' h2 ⟨h3.os,h3.tape,h3.output,Nat.le_trans S' h3.size,fun k hk hne=>?_⟩ (by have:=h3.size;simpa using this) (by simpa using h5);rw [h3.block k (by simp;omega) hne];exact Below.heap_alloc _ _ _ hk
theorem rW {α:Type} [Dat α] {P:Program} {t e:TypeId} {z:Value} {size bytes:Nat} (hE:DL P t e z size bytes) (hd:Dat.size α = size) {ops:Array Oper} {rest:List Oper} {o:Oper} {a:Act} {Q:Exit→Act→World→Prop} (hgd:o.guard = none) (s x:Operand)
 (ho:o.op = .call { callee:=.builtin .append,args:=#[s,x],argTypes:=#[t,t] })
 (w:World) (base:Nat) (v:Value) (n:Nat) (xs:List Value) (hown:w.ownsRow base e size v n xs) (hs:a.eval s = v)
 (ys:List α) (A:Option Addr) (c:Nat) (F:List Nat) (hsl:Sl w ys A c F) (hx:a.eval x = .slice A ys.length c)
 (hn:n+ys.length≤2097152) (hby:bytes≤4096) (hbase:base≤w.heap.size)
 (h:∀v' w' ds G,jo w ys ds G→(∀b∈G,b∈F)→w'.ownsRow base e size v' (n+ys.length) (xs++ds)→w.grownBy w' v.ownBlock→(v'.ownBlock = v.ownBlock∨v'.ownBlock = some w.heap.size)→wpList P ops Q rest (a.put o.dst v') w'):wpList P ops Q (o :: rest) a w:=by
 subst hd;obtain ⟨ht,hi0,hzs,hsz⟩:=hE;obtain ⟨i,hi,hz,hsize,hb⟩:=info_parts hi0;have hbb:(n+ys.length) * bytes≤2097152 * 4096:=Nat.mul_le_mul hn hby;obtain ⟨A',c',G,ds,e0,h1,h2,hc,h0⟩:=hsl;simp only [List.cons.injEq,Value.slice.injEq,and_true,true_and] at e0;obtain ⟨rfl,rfl⟩:=e0;have some_:∀(ad:Addr),A = some ad→(∀j u,ds[j]? = some u→w.cell? (ad.add j) = some u)→wpList P ops Q (o :: rest) a w:=by
  intro ad hA hcell;subst hA;have hG:∀b∈G,b∈F:=by
   rcases h0 with ⟨rfl,rfl⟩ | ⟨b,o',_,rfl,_⟩
   ·rw [hc.2];intro b hb;cases hb
   ·intro x hx;exact List.mem_cons_of_mem _ hx
  exact wpList_append_own_at w hgd s x t ho base e i z (Dat.size α) bytes ht hi hz hsize hb hzs hsz v n xs hs hown ad ys.length c ds hx hc.len hcell hc.one at6 O' hbase (fun v' w' hown' hg _ hat=>h v' w' ds G hc hG hown' hg hat)
 rcases h0 with ⟨rfl,rfl⟩ | ⟨b,o',hA,rfl,hb,hcell⟩
 ·obtain ⟨rfl,rfl⟩:=hc;cases A with
  | some ad=>exact some_ ad rfl (fun j u hu=>by simp at hu)
  | none =>
    have fin:∀(A2:Option Addr) (cap:Nat),v = .slice A2 n cap→n≤cap→wpList P ops Q (o :: rest) a w:=by intro A2 cap hv hle;refine wpList_plain hgd fun K hK=>?_;have hr:=run_append_nothing (P:=P) w t t o.type e i ht hi A2 n cap hle (.slice none 0 c) (Src.ofNil w ht c);unfold Oper.wp execOp;simp only [ho,resolve,invoke,builtin,Sem.run_bind,Sem.run_pure,Result.andThen_ok,List.map_toArray,List.map_cons,List.map_nil,hs,hv,hx,List.length_nil,hr];refine hK _ _ ?_;subst hv;exact h _ w [] [] ⟨rfl,rfl⟩ (fun b hb=>hb) (by simpa using hown) ⟨rfl,rfl,rfl,Nat.le_refl _,fun _ _ _=>rfl⟩ (.inl rfl)
    rcases hown.2 with ⟨hv,hn0⟩ | ⟨g,cap,cur,hv,_,_,hle,_⟩
    ·exact fin none 0 (by rw [hv,hn0]) O'
    ·exact fin _ cap hv hle
 ·refine some_ _ hA fun j u hu=>?_;rw [show (⟨b,o',none⟩:Addr).add j = ⟨b,o'+j,none⟩ from by unfold Addr.add;split <;> simp_all];exact hcell j u hu
section
variable {α:Type} [Dat α] {w:World}
theorem abn (hf:∀{w:World} {x:α} {cs:List Value} {F:List Nat},rd w x cs F→F = []):∀{xs:List α} {ds:List Value} {F:List Nat},jo w xs ds F→F = []
 | [],_,_,h=>h.2
 | x :: xs,_,_,⟨c1,c2,F1,F2,_,rfl,h1,h2⟩=>by rw [hf h1,abn hf h2];rfl
theorem Own.of_flat {B:Nat} {e:TypeId} {v:Value} {xs:List α} {ds:List Value} {F:List Nat} (hf:∀{w:World} {x:α} {cs:List Value} {F:List Nat},Go.Proofs.YtkjeocdobidadaaGreat.Dat.rd w x cs F→F = []) (h0:w.ownsRow B e (Dat.size α) v xs.length ds) (h:jo w xs ds F) :
 ∃A c G,v = .slice A xs.length c∧Own w B xs [.slice A xs.length c] G:=by
 obtain rfl:=abn hf h;exact Own.oJ h0 ⟨h,List.nodup_nil,(fun b hb=>by cases hb),(fun b hb=>by cases hb)⟩ (fun g _ hm=>by cases hm)
end
theorem Fill.oJ {w:World} {B e size n:Nat} {v:Value} {ds:List Value} (h:w.ownsRow B e size v n ds):(v = .slice none 0 0∧n = 0)∨∃g cap N,v = .slice (some ⟨g,0,none⟩) n cap∧B≤g∧Fill w g e N ds∧n≤cap∧cap≤maxLen:=by
 rcases h with ⟨hl,h | ⟨g,cap,cur,rfl,hb,hh,hle,hm,hcs,ht⟩⟩
 ·exact .inl h
 ·refine .inr ⟨g,cap,cur.size,rfl,hb,⟨cur,hh,rfl,?_,fun j u hu=>?_⟩,hle,hm⟩
  ·rw [hl,hcs];exact Nat.mul_le_mul_right _ hle
  ·exact Zafh
theorem Fill.set {w:World} {g:Nat} {t:TypeId} {N:Nat} {ds:List Value} (h:Fill w g t N ds) {i:Nat} (hi:i < ds.length) (u:Value):Fill (w.setCell ⟨g,i,none⟩ u) g t N (ds.set i u):=by
 obtain ⟨cs,h,rfl,hl,hc⟩:=h;refine ⟨cs.setIfInBounds i u,?_,S',by simpa using hl,fun j v hv=>?_⟩
 ·simp [World.setCell,Array.getElem?_modify,h]
 ·by_cases hj:i = j
  ·subst hj;rw [List.getElem?_set_self hi] at hv;cases hv
   rw [Array.getElem?_setIfInBounds_self_of_lt O']
  ·rw [List.getElem?_set_ne hj] at hv;rw [Array.getElem?_setIfInBounds_ne hj];exact hc j v hv
theorem Fill.at_ {w:World} {g:Nat} {t:TypeId} {N:Nat} {ds:List Value} (h:Fill w g t N ds) {j:Nat} {u:Value} (hj:ds[j]? = some u):w.cell? ⟨g,j,none⟩ = some u:=by have:=h.cells j u hj;simpa using this
structure Roomy (α:Type) where
 l:List α
 t:TypeId
instance {α:Type} [Dat α]:Dat (Roomy α) where
 size:=1
 pos:=by omega
 rd w x cs F:=rd w x.l cs F∧((x.l = []∧cs = [.slice none 0 0])∨∃g c cur G,x.l≠[]∧cs = [.slice (some ⟨g,0,none⟩) x.l.length c]∧F = g :: G∧w.heap[g]? = some (.cells cur x.t (0,0))∧cur.size = c * Dat.size α)
 len h:=Dat.len h.1
 one h:=Dat.one h.1
 lt h:=Dat.lt h.1
 frame h hk hz:=⟨Dat.frame h.1 hk hz,by
  rcases h.2 with h2 | ⟨g,c,cur,G,h0,h1,h2,h3,h4⟩
  ·exact .inl h2
  ·exact .inr ⟨g,c,cur,G,h0,h1,h2,(hk g (by rw [h2];exact List.mem_cons_self ..)).trans h3,h4⟩⟩
section
variable {α:Type} [Dat α] {w:World} {B:Nat} {xs:List α} {ds:List Value} {F:List Nat}
theorem Own.list {cs:List Value} {t:TypeId} (h:Own w B (Roomy.mk xs t) cs F):Own w B xs cs F:=⟨h.rd.1,h.nodup,h.base,h.plain⟩
theorem Own.of_rowR {e:TypeId} {v:Value} (h0:w.ownsRow B e (Dat.size α) v xs.length ds) (h:aY w B xs ds F) (hne:∀g,v.ownBlock = some g→g∉F) (hv:xs.length = 0→v = .slice none 0 0):∃A c G,v = .slice A xs.length c∧Own w B (Roomy.mk xs e) [.slice A xs.length c] G:=by
 obtain ⟨A,c,G,hA,hO⟩:=Own.oJ h0 h hne;refine ⟨A,c,G,hA,⟨⟨hO.rd,?_⟩,hO.nodup,hO.base,hO.plain⟩⟩;by_cases hx:xs = []
 ·left;have:=hv (by rw [hx];rfl);rw [this] at hA;exact ⟨hx,by rw [hA]⟩
 ·right;rcases h0.2 with ⟨_,hn⟩ | ⟨g,cap,cur,h1,h2,h3,h4,h5,h6,h7⟩
  ·exact absurd (List.eq_nil_of_length_eq_zero hn) hx
  ·rw [hA] at h1;simp only [Value.slice.injEq,true_and] at h1;obtain ⟨rfl,rfl⟩:=h1;obtain ⟨A',c',G',ds',e0,_,_,_,h8⟩:=hO.rd;simp only [List.cons.injEq,Value.slice.injEq,and_true,true_and] at e0;obtain ⟨rfl,rfl⟩:=e0;rcases h8 with ⟨h9,_⟩ | ⟨b,o,hb,rfl,_,_⟩
   ·exact absurd h9 hx
   ·simp only [Option.some.injEq,Addr.mk.injEq,and_true] at hb;obtain ⟨rfl,rfl⟩:=hb;exact ⟨g,c,cur,G',hx,rfl,rfl,h3,h6⟩
theorem Own.roomRow {t:TypeId} {A:Option Addr} {c:Nat} (h:Own w B (Roomy.mk xs t) [.slice A xs.length c] F):∃ds G,w.ownsRow B t (Dat.size α) (.slice A xs.length c) xs.length ds∧aY w B xs ds G∧(∀g,(Value.slice A xs.length c).ownBlock = some g→g∉G)∧(∀b∈G,b∈F):=by
 obtain ⟨⟨A',c',G,ds,e0,hl,hm,hc,h0⟩,h2⟩:=h.rd;simp only [List.cons.injEq,Value.slice.injEq,and_true,true_and] at e0;obtain ⟨rfl,rfl⟩:=e0;rcases h2 with ⟨hx,he⟩ | ⟨g,c',cur,G',hx0,he,hF,hg,hs⟩
 ·simp only at hx;subst hx;simp only [List.length_nil,List.cons.injEq,Value.slice.injEq,and_true,true_and] at he;obtain ⟨rfl,rfl⟩:=he;exact ⟨[],[],⟨S',.inl ⟨rfl,rfl⟩⟩,aY.nil w B,(fun g hg=>by cases hg),(fun b hb=>by cases hb)⟩
 ·simp only [List.cons.injEq,Value.slice.injEq,and_true,true_and] at he;obtain ⟨rfl,rfl⟩:=he;rcases h0 with ⟨hx,qp⟩ | ⟨b,o,hb,hF2,hlt,hcell⟩
  ·rw [qp] at hF;cases hF
  ·simp only [Option.some.injEq,Addr.mk.injEq,and_true] at hb;obtain ⟨rfl,rfl⟩:=hb;subst hF2;have hn:=List.nodup_cons.1 h.nodup;have hdl:ds.length = xs.length * Dat.size α:=hc.len;refine ⟨ds,G,⟨hdl,.inr ⟨g,c,cur,rfl,h.base g (List.mem_cons_self ..),hg,hl,hm,hs,?_⟩⟩,⟨hc,hn.2,fun b hb=>h.base b (List.mem_cons_of_mem _ hb),fun b hb=>h.plain b (List.mem_cons_of_mem _ hb)⟩,(fun q hq=>by simp only [Value.ownBlock,Option.some.injEq] at hq;subst hq;exact hn.1),fun b hb=>List.mem_cons_of_mem _ hb⟩;apply List.ext_getElem?;intro j;rw [List.getElem?_take];by_cases hj:j < xs.length * Dat.size α
   ·rw [if_pos hj];have hd:ds[j]? = some ds[j]:=List.getElem?_eq_getElem O';have:=hcell j _ hd;rw [Nat.zero_add,cell_of_row w g j cur t (0,0) hg] at this;rw [hd,← this];simp
   ·rw [if_neg hj,List.getElem?_eq_none O']
theorem Own.room {t:TypeId} {v:Value} {G:List Nat} (h:Own w B xs [v] F) (hr:Go.Proofs.YtkjeocdobidadaaGreat.Dat.rd w (Roomy.mk xs t) [v] G):Own w B (Roomy.mk xs t) [v] F:=by
 refine ⟨⟨h.rd,?_⟩,h.nodup,h.base,h.plain⟩;rcases hr.2 with h1 | ⟨g,c,cur,G',h0,h1,h2,h3,h4⟩
 ·exact .inl h1
 ·refine .inr ⟨g,c,cur,?_⟩;obtain ⟨A',c',G2,ds,e0,hl,hm,hc,h5⟩:=h.rd;rcases h5 with ⟨hx,_⟩ | ⟨b,o,hb,hF,_,_⟩
  ·exact absurd hx h0
  ·subst hb;rw [e0] at h1;simp only [List.cons.injEq,Value.slice.injEq,Option.some.injEq,Addr.mk.injEq,and_true,true_and] at h1;refine ⟨G2,h0,?_,?_,h3,h4⟩
   ·rw [e0,h1.1.1,h1.1.2,h1.2]
   ·rw [hF,h1.1.1]
end
def RoomC (x:aU) (w:World) (cs:List Value):Prop:=∃Ah ch Ap cp Gh Gp rest,cs = .slice Ah x.hosts.length ch :: .slice Ap x.au.length cp :: rest∧Go.Proofs.YtkjeocdobidadaaGreat.Dat.rd w (Roomy.mk x.hosts 42) [.slice Ah x.hosts.length ch] Gh∧Go.Proofs.YtkjeocdobidadaaGreat.Dat.rd w (Roomy.mk x.au 53) [.slice Ap x.au.length cp] Gp
theorem anQ:(Tryz.prog.info? 107).map (fun i=>(i.zero,i.size,i.bytes)) = some (some ((.agg #[.string ⟨#[]⟩,.string ⟨#[]⟩])),2,32):=by kernel_rfl
theorem afn:DL Tryz.prog 35 107 ((.agg #[.string ⟨#[]⟩,.string ⟨#[]⟩])) 2 32:=⟨Tryz.underlying35,anQ,rfl,O'⟩
theorem acO {w:World} {x:Label} {cs:List Value} {F:List Nat} (h:rd w x cs F):F = []:=by obtain ⟨_,hF,_⟩:=vO h;exact hF
theorem anR:(Tryz.prog.info? 151).map (fun i=>(i.zero,i.size,i.bytes)) = some (some ((.agg #[.string ⟨#[]⟩,.string ⟨#[]⟩,.int .i64 0])),3,40):=by kernel_rfl
theorem alP:DL Tryz.prog 40 151 ((.agg #[.string ⟨#[]⟩,.string ⟨#[]⟩,.int .i64 0])) 3 40:=⟨Tryz.underlying40,anR,rfl,O'⟩
theorem aiH {w:World} {x:iU} {cs:List Value} {F:List Nat} (h:rd w x cs F):F = []:=by obtain ⟨_,hF,_⟩:=oK h;exact hF
theorem afp:(Tryz.prog.info? 148).map (fun i=>(i.zero,i.size,i.bytes)) = some (some ((.agg #[.string ⟨#[]⟩,.bool false,.string ⟨#[]⟩,.int .i64 0])),4,48):=by kernel_rfl
theorem abo:DL Tryz.prog 37 148 ((.agg #[.string ⟨#[]⟩,.bool false,.string ⟨#[]⟩,.int .i64 0])) 4 48:=⟨Tryz.underlying37,afp,rfl,O'⟩
theorem Zk {w:World} {x:bH} {cs:List Value} {F:List Nat} (h:rd w x cs F):F = []:=by obtain ⟨_,hF,_⟩:=jv h;exact hF
theorem Xj:(Tryz.prog.info? 9).map (fun i=>(i.zero,i.size,i.bytes)) = some (some (.string ⟨#[]⟩),1,16):=by kernel_rfl
theorem Ud:DL Tryz.prog 49 9 (.string ⟨#[]⟩) 1 16:=⟨Tryz.underlying49,Xj,rfl,O'⟩
theorem P8 {w:World} {x:ByteArray} {cs:List Value} {F:List Nat} (h:rd w x cs F):F = []:=h.2.1
theorem apQ:(Tryz.prog.info? 110).map (fun i=>(i.zero,i.size,i.bytes)) = some (some ((.agg #[.string ⟨#[]⟩,.int .i64 0,.slice none 0 0])),3,48):=by kernel_rfl
theorem apf:DL Tryz.prog 36 110 ((.agg #[.string ⟨#[]⟩,.int .i64 0,.slice none 0 0])) 3 48:=⟨Tryz.underlying36,apQ,rfl,O'⟩
theorem rQ {w w':World} {B e size n b:Nat} {v:Value} {xs:List Value} (h:w.ownsRow B e size v n xs) (hu:nN [b] w w') (hb:b < B):w'.ownsRow B e size v n xs :=
 h.kept (row:=some b) ⟨hu.os,hu.tape,hu.output,hu.size,fun k hk hne=>hu.block k hk (by simpa using fun e=>hne (by rw [e]))⟩ (by
   by_cases hv:v.ownBlock = some b
   ·have:=(h.lt b hv).1;omega
   ·exact .inr hv)
theorem nN.alloc {F:List Nat} {w w1:World} (h:nN F w w1) (o:Obj):nN F w (w1.alloc o):=h.trans (nN.lq F (ak (aj _) o))
structure Cq3 (w wk:World) (cs zs os:List Value):Prop where
 box:oG wk w.heap.size cs
 rb:oG wk (w.heap.size+1) zs
 ob:oG wk (w.heap.size+1+1) os
 below:Below w.heap.size w wk
section
variable {w wk w':World} {cs zs os:List Value}
theorem Cq3.new (w:World) (cs zs os:List Value) (t t2 t3:TypeId):Cq3 w (((w.alloc (.cells cs.toArray t)).alloc (.cells zs.toArray t2)).alloc (.cells os.toArray t3)) cs zs os :=
 ⟨((oG.new w cs t).ext (ak (aj _) _)).ext (ak (aj _) _),(by have:=oG.new (w.alloc (.cells cs.toArray t)) zs t2;rw [World.size_alloc] at this;exact this.ext (ak (aj _) _)),(by have:=oG.new ((w.alloc (.cells cs.toArray t)).alloc (.cells zs.toArray t2)) os t3;rw [World.size_alloc,World.size_alloc] at this;exact this),ak (ak (ak (aj _) _) _) _⟩
theorem Cq3.ext (h:Cq3 w wk cs zs os) (hb:Below wk.heap.size wk w'):Cq3 w w' cs zs os:=⟨h.box.ext hb,h.rb.ext hb,h.ob.ext hb,ah h.below hb⟩
theorem Cq3.put (h:Cq3 w wk cs zs os) (i:Nat) (u:Value):Cq3 w (wk.setCell ⟨w.heap.size+1+1,i,none⟩ u) cs zs (os.set i u):=⟨h.box.far O' i u,h.rb.far O' i u,h.ob.put i u,aC h.below atX u⟩
end
theorem rd_extN {α:Type} [Dat α] {w w':World} {x:α} {cs:List Value} {F:List Nat} (h:rd w x cs F) (hb:Below w.heap.size w w'):rd w' x cs F:=Dat.frame h (fun b hb'=>hb.block b (Dat.lt h b hb')) hb.size
def RoomS (w:World) (B:Nat) (e:TypeId) (size:Nat) (A:Option Addr) (c:Nat):Prop :=
 (A = none∧c = 0)∨∃g cur,A = some ⟨g,0,none⟩∧B≤g∧w.heap[g]? = some (.cells cur e (0,0))∧c≤maxLen∧cur.size = c * size
section
variable {w w':World} {B size c:Nat} {e:TypeId} {A:Option Addr}
theorem RoomS.oJ {B' n m:Nat} {xs:List Value} (h:w.ownsRow B' e size (.slice A n c) m xs) (hB:B≤B'):RoomS w B e size A c:=by
 rcases h.2 with ⟨h1,_⟩ | ⟨g,cap,cur,h1,h2,h3,h4,h5,h6,_⟩
 ·simp only [Value.slice.injEq] at h1;exact .inl ⟨h1.1,h1.2.2⟩
 ·simp only [Value.slice.injEq] at h1;obtain ⟨rfl,_,rfl⟩:=h1;exact .inr ⟨g,cur,rfl,Nat.le_trans hB h2,h3,h5,h6⟩
theorem RoomS.ext (h:RoomS w B e size A c) (hb:Below w.heap.size w w'):RoomS w' B e size A c:=by
 rcases h with h | ⟨g,cur,h1,h2,h3,h4⟩
 ·exact .inl h
 ·have hg:g < w.heap.size:=by
   exact Zadl
  exact .inr ⟨g,cur,h1,h2,(hb.block g hg).trans h3,h4⟩
theorem RoomS.drawn {b:Nat} (h:RoomS w B e size A c) (hu:nN [b] w w') (hb:b < B):RoomS w' B e size A c:=by
 rcases h with h | ⟨g,cur,h1,h2,h3,h4⟩
 ·exact .inl h
 ·have hg:g < w.heap.size:=by
   exact Zadl
  exact .inr ⟨g,cur,h1,h2,(hu.block g hg (by simp;omega)).trans h3,h4⟩
theorem RoomS.mono {B':Nat} (h:RoomS w B e size A c) (hB:B'≤B):RoomS w B' e size A c:=by
 rcases h with h | ⟨g,cur,h1,h2,h3⟩
 ·exact .inl h
 ·exact .inr ⟨g,cur,h1,Nat.le_trans hB h2,h3⟩
theorem RoomS.lt (h:RoomS w B e size A c):∀g,A = some ⟨g,0,none⟩→g < w.heap.size:=by
 rintro g rfl;rcases h with ⟨h,_⟩ | ⟨g,cur,h1,h2,h3,h4⟩
 ·cases h
 ·simp only [Option.some.injEq,Addr.mk.injEq,and_true] at h1;subst h1;exact Zadl
theorem RoomS.keep (h:RoomS w B e size A c) (hk:∀g,A = some ⟨g,0,none⟩→w'.heap[g]? = w.heap[g]?):RoomS w' B e size A c:=by
 rcases h with h | ⟨g,cur,h1,h2,h3,h4⟩
 ·exact .inl h
 ·exact .inr ⟨g,cur,h1,h2,(hk g h1).trans h3,h4⟩
theorem RoomS.far {b:Nat} (h:RoomS w B e size A c) (hb:b < B) (j:Nat) (v:Value):RoomS (w.setCell ⟨b,j,none⟩ v) B e size A c:=by
 rcases h with h | ⟨g,cur,h1,h2,h3,h4⟩
 ·exact .inl h
 ·exact .inr ⟨g,cur,h1,h2,(Below.heap_setCell _ _ _ _ atX).trans h3,h4⟩
end
end Go.Proofs.YtkjeocdobidadaaGreat
