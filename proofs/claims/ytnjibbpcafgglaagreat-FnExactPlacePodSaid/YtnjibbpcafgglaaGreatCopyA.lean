/- Blocks with given cells. No condition. -/
import Derived.Test.YtnjibbpcafgglaaGreatMarks0
import Derived.Test.YtnjibbpcafgglaaGreatSums0
import Derived.Deep.Upon
import Derived.Deep.AppendSrc
import Derived.Test.YtnjibbpcafgglaaGreatBase0
import Derived.Lib.SliceRun
import Derived.Test.YtnjibbpcafgglaaGreatToFlat
import Derived.Test.YtnjibbpcafgglaaGreatLaw1
import Derived.Test.YtnjibbpcafgglaaGreatSz
namespace Go.Proofs.YtnjibbpcafgglaaGreat
open Go.ChangeShapes Go.WideShapes Go.ChangeAt Go.RowKit
set_option linter.unusedVariables false
set_option linter.unusedSimpArgs false
def oG (w:World) (g:Nat) (cs:List Value):Prop:=∃t,w.heap[g]? = some (.cells cs.toArray t (0,0))
section
variable {w w':World} {g:Nat} {cs:List Value}
theorem oG.lt (h:oG w g cs):g < w.heap.size:=by
 obtain ⟨t,h⟩:=h
 rcases Nat.lt_or_ge g w.heap.size with hlt | hge
 ·exact hlt
 ·rw [Array.getElem?_eq_none hge] at h;cases h
theorem oG.cell (h:oG w g cs) {i:Nat} {u:Value} (hi:cs[i]? = some u):w.cell? ⟨g,i,none⟩ = some u:=by
 obtain ⟨t,h⟩:=h
 rw [cell_of_row w g i _ t (0,0) h]
 simpa using hi
theorem oG.fz (h:oG w g cs) (i:Nat):w.frozen? ⟨g,i,none⟩ = false:=by obtain ⟨t,h⟩:=h;simp [World.frozen?,h]
theorem oG.keep (h:oG w g cs) (hk:w'.heap[g]? = w.heap[g]?):oG w' g cs:=by obtain ⟨t,h⟩:=h;exact ⟨t,hk.trans h⟩
theorem oG.put (h:oG w g cs) (i:Nat) (u:Value):oG (w.setCell ⟨g,i,none⟩ u) g (cs.set i u):=by
 obtain ⟨t,h⟩:=h
 exact ⟨t,by simp [World.setCell,Array.getElem?_modify,h]⟩
theorem oG.far (h:oG w g cs) {c:Nat} (hc:c≠g) (i:Nat) (u:Value):oG (w.setCell ⟨c,i,none⟩ u) g cs:=h.keep (Below.heap_setCell _ _ _ _ atX)
theorem oG.new (w:World) (cs:List Value) (t:TypeId):oG (w.alloc (.cells cs.toArray t)) w.heap.size cs:=⟨t,heap_alloc_new w _⟩
theorem oG.ext (h:oG w g cs) (hb:Below w.heap.size w w'):oG w' g cs:=h.keep (hb.block g h.lt)
theorem oG.upd {b:Nat} (h:oG w g cs) (hu:nN [b] w w') (hg:g≠b):oG w' g cs:=h.keep (hu.block g h.lt (by simpa using hg))
end
end Go.Proofs.YtnjibbpcafgglaaGreat
namespace Go.Proofs.YtnjibbpcafgglaaGreat
open Go.ChangeShapes Go.WideShapes Go.ChangeAt Go.RowKit
set_option linter.unusedVariables false
set_option linter.unusedSimpArgs false
theorem mY {w:World} {B e size n:Nat} {v:Value} {xs:List Value} (h:w.ownsRow B e size v n xs):∃A c,v = .slice A n c:=by
 rcases h.2 with ⟨rfl,hn⟩ | ⟨g,cap,cur,rfl,_⟩
 ·subst hn;exact ⟨none,0,rfl⟩
 ·exact ⟨_,_,rfl⟩
theorem EJ {w:World} {B e size n c i:Nat} {v u:Value} {xs:List Value} (h:w.ownsRow B e size v n xs) (hc:∀g,v.ownBlock = some g→g≠c):(w.setCell ⟨c,i,none⟩ u).ownsRow B e size v n xs :=
 h.kept (row:=some c) ⟨rfl,rfl,rfl,by simp [World.setCell],fun k hk hne=>Below.heap_setCell _ _ _ _ (by intro e;apply hne;rw [e])⟩ (by
   by_cases hv:v.ownBlock = some c
   ·exact absurd rfl (hc c hv)
   ·exact .inr hv)
section
variable {α:Type} [Dat α]
theorem aY.afm {w w':World} {B B5 e size n:Nat} {v v':Value} {xs:List α} {ds us cs:List Value} {F G:List Nat} {x:α} (row:w.ownsRow B e size v n us) (hcs:aY w B xs ds F) (hne:∀g,v.ownBlock = some g→g∉F)
 (hx:Own w B5 x cs G) (h5:B≤B5) (hv5:∀g,v.ownBlock = some g→g < B5) (hF:∀y∈F,y < B5) (hg:w.grownBy w' v.ownBlock) (hat:v'.ownBlock = v.ownBlock∨v'.ownBlock = some (w.heap.size+1)) :
 aY w' B (xs++[x]) (ds++cs) (F++G)∧∀g,v'.ownBlock = some g→g∉F++G:=by
 have h1:=hcs.push hx h5 hF
 have hno:∀g,v.ownBlock = some g→g∉F++G:=fun g hv hm=>by
  rcases List.mem_append.1 hm with hm | hm
  ·exact hne g hv hm
  ·have:=hx.base g hm;have:=hv5 g hv;omega
 refine ⟨h1.keep (fun y hy=>hg.block y (h1.lt y hy) (fun hv=>hno y hv.symm hy)) hg.size,fun g hv hm=>?_⟩
 rcases hat with hat | hat
 ·exact hno g (hat.symm.trans hv) hm
 ·have h2:=h1.lt g hm
  rw [hat] at hv
  injection hv with hv
  omega
end
theorem Qb {P:Program} {t e:TypeId} {z:Value} {size bytes:Nat} (hE:DL P t e z size bytes) {o:Oper} {a:Act} {K:Act→World→Prop} {Q:Exit→Act→World→Prop} (s x:Operand)
 (ho:o.op = .call { callee:=.builtin .append,args:=#[s,x],argTypes:=#[t,t] })
 (w:World) (base:Nat) (v:Value) (n:Nat) (xs:List Value) (hown:w.ownsRow base e size v n xs) (hs:a.eval s = v)
 (cs:List Value) (hx:a.eval x = .slice (some ⟨w.heap.size,0,none⟩) 1 1) (hl:cs.length = size) (h1:∀u∈cs,u.oneCell' = true)
 (hn:n≤2097152) (hby:bytes≤4096) (hbase:base≤w.heap.size)
 (h:∀v' w',w'.ownsRow base e size v' (n+1) (xs++cs)→w.grownBy w' v.ownBlock→w.heap.size+1≤w'.heap.size→(v'.ownBlock = v.ownBlock∨v'.ownBlock = some (w.heap.size+1))→K (a.put o.dst v') w'):o.wp P a (w.alloc (.cells cs.toArray e)) K Q:=by
 obtain ⟨ht,hi0,hzs,hsz⟩:=hE
 obtain ⟨i,hi,hz,hsize,hb⟩:=info_parts hi0
 have hbb:(n+1) * bytes≤2097153 * 4096:=Nat.mul_le_mul (by omega) hby
 have hnews:∀j u,cs[j]? = some u→(w.alloc (.cells cs.toArray e)).cell? ((⟨w.heap.size,0,none⟩:Addr).add j) = some u:=by
  intro j u hu
  rw [Addr.add]
  have hc:=cell_of_row (w.alloc (.cells cs.toArray e)) w.heap.size j cs.toArray e (0,0) (heap_alloc_new w _)
  split
  ·rename_i hj;subst hj;rw [hc];simpa using hu
  ·simp only [Nat.zero_add];rw [hc];simpa using hu
 obtain ⟨v',w',hr,h2,h3,h4,h5⟩:=run_append_own_at (P:=P) (w.alloc (.cells cs.toArray e)) base t o.type e i z size bytes ht hi hz hsize hb hzs hsz v n xs (hown.alloc _) ⟨w.heap.size,0,none⟩ 1 1 cs (by omega) hnews h1 at6 (by omega) (by simp;omega)
 unfold Oper.wp execOp
 simp only [ho,resolve,invoke,builtin,Sem.run_bind,Sem.run_pure,Result.andThen_ok,List.map_toArray,List.map_cons,List.map_nil,hs,hx,hr]
 refine h v' w' h2 ⟨h3.os,h3.tape,h3.output,Nat.le_trans (by simp) h3.size,fun k hk hne=>?_⟩ (by have:=h3.size;simpa using this) (by simpa using h5)
 rw [h3.block k (by simp;omega) hne]
 exact Below.heap_alloc _ _ _ hk
theorem rW {α:Type} [Dat α] {P:Program} {t e:TypeId} {z:Value} {size bytes:Nat} (hE:DL P t e z size bytes) (hd:Dat.size α = size) {ops:Array Oper} {rest:List Oper} {o:Oper} {a:Act} {Q:Exit→Act→World→Prop} (hgd:o.guard = none) (s x:Operand)
 (ho:o.op = .call { callee:=.builtin .append,args:=#[s,x],argTypes:=#[t,t] })
 (w:World) (base:Nat) (v:Value) (n:Nat) (xs:List Value) (hown:w.ownsRow base e size v n xs) (hs:a.eval s = v)
 (ys:List α) (A:Option Addr) (c:Nat) (F:List Nat) (hsl:Sl w ys A c F) (hx:a.eval x = .slice A ys.length c)
 (hn:n+ys.length≤2097152) (hby:bytes≤4096) (hbase:base≤w.heap.size)
 (h:∀v' w' ds G,jo w ys ds G→(∀b∈G,b∈F)→w'.ownsRow base e size v' (n+ys.length) (xs++ds)→w.grownBy w' v.ownBlock→(v'.ownBlock = v.ownBlock∨v'.ownBlock = some w.heap.size)→wpList P ops Q rest (a.put o.dst v') w'):wpList P ops Q (o :: rest) a w:=by
 subst hd
 obtain ⟨ht,hi0,hzs,hsz⟩:=hE
 obtain ⟨i,hi,hz,hsize,hb⟩:=info_parts hi0
 have hbb:(n+ys.length) * bytes≤2097152 * 4096:=Nat.mul_le_mul hn hby
 obtain ⟨A',c',G,ds,e0,h1,h2,hc,h0⟩:=hsl
 simp only [List.cons.injEq,Value.slice.injEq,and_true,true_and] at e0
 obtain ⟨rfl,rfl⟩:=e0
 have some_:∀(ad:Addr),A = some ad→(∀j u,ds[j]? = some u→w.cell? (ad.add j) = some u)→wpList P ops Q (o :: rest) a w:=by
  intro ad hA hcell
  subst hA
  have hG:∀b∈G,b∈F:=by
   rcases h0 with ⟨rfl,rfl⟩ | ⟨b,o',_,rfl,_⟩
   ·rw [hc.2];intro b hb;cases hb
   ·intro x hx;exact List.mem_cons_of_mem _ hx
  exact wpList_append_own_at w hgd s x t ho base e i z (Dat.size α) bytes ht hi hz hsize hb hzs hsz v n xs hs hown ad ys.length c ds hx hc.len hcell hc.one at6 (by omega) hbase (fun v' w' hown' hg _ hat=>h v' w' ds G hc hG hown' hg hat)
 rcases h0 with ⟨rfl,rfl⟩ | ⟨b,o',hA,rfl,hb,hcell⟩
 ·obtain ⟨rfl,rfl⟩:=hc
  cases A with
  | some ad=>exact some_ ad rfl (fun j u hu=>by simp at hu)
  | none =>
    have fin:∀(A2:Option Addr) (cap:Nat),v = .slice A2 n cap→n≤cap→wpList P ops Q (o :: rest) a w:=by
     intro A2 cap hv hle
     refine wpList_plain hgd fun K hK=>?_
     have hr:=run_append_nothing (P:=P) w t t o.type e i ht hi A2 n cap hle (.slice none 0 c) (Src.ofNil w ht c)
     unfold Oper.wp execOp
     simp only [ho,resolve,invoke,builtin,Sem.run_bind,Sem.run_pure,Result.andThen_ok,List.map_toArray,List.map_cons,List.map_nil,hs,hv,hx,List.length_nil,hr]
     refine hK _ _ ?_
     subst hv
     exact h _ w [] [] ⟨rfl,rfl⟩ (fun b hb=>hb) (by simpa using hown) ⟨rfl,rfl,rfl,Nat.le_refl _,fun _ _ _=>rfl⟩ (.inl rfl)
    rcases hown.2 with ⟨hv,hn0⟩ | ⟨g,cap,cur,hv,_,_,hle,_⟩
    ·exact fin none 0 (by rw [hv,hn0]) (by omega)
    ·exact fin _ cap hv hle
 ·refine some_ _ hA fun j u hu=>?_
  rw [show (⟨b,o',none⟩:Addr).add j = ⟨b,o'+j,none⟩ from by unfold Addr.add;split <;> simp_all]
  exact hcell j u hu
section
variable {α:Type} [Dat α] {w:World}
theorem abn (hf:∀{w:World} {x:α} {cs:List Value} {F:List Nat},rd w x cs F→F = []):∀{xs:List α} {ds:List Value} {F:List Nat},jo w xs ds F→F = []
 | [],_,_,h=>h.2
 | x :: xs,_,_,⟨c1,c2,F1,F2,_,rfl,h1,h2⟩=>by rw [hf h1,abn hf h2];rfl
theorem Own.of_flat {B:Nat} {e:TypeId} {v:Value} {xs:List α} {ds:List Value} {F:List Nat} (hf:∀{w:World} {x:α} {cs:List Value} {F:List Nat},Go.Proofs.YtnjibbpcafgglaaGreat.Dat.rd w x cs F→F = []) (h0:w.ownsRow B e (Dat.size α) v xs.length ds) (h:jo w xs ds F) :
 ∃A c G,v = .slice A xs.length c∧Own w B xs [.slice A xs.length c] G:=by
 obtain rfl:=abn hf h
 exact Own.oJ h0 ⟨h,List.nodup_nil,(fun b hb=>by cases hb),(fun b hb=>by cases hb)⟩ (fun g _ hm=>by cases hm)
end
theorem Fill.oJ {w:World} {B e size n:Nat} {v:Value} {ds:List Value} (h:w.ownsRow B e size v n ds):(v = .slice none 0 0∧n = 0)∨∃g cap N,v = .slice (some ⟨g,0,none⟩) n cap∧B≤g∧Fill w g e N ds∧n≤cap∧cap≤maxLen:=by
 rcases h with ⟨hl,h | ⟨g,cap,cur,rfl,hb,hh,hle,hm,hcs,ht⟩⟩
 ·exact .inl h
 ·refine .inr ⟨g,cap,cur.size,rfl,hb,⟨cur,hh,rfl,?_,fun j u hu=>?_⟩,hle,hm⟩
  ·rw [hl,hcs];exact Nat.mul_le_mul_right _ hle
  ·have hj:=(List.getElem?_eq_some_iff.1 hu).1
   rw [← ht,List.getElem?_take] at hu
   split at hu
   ·simpa using hu
   ·cases hu
theorem Fill.set {w:World} {g:Nat} {t:TypeId} {N:Nat} {ds:List Value} (h:Fill w g t N ds) {i:Nat} (hi:i < ds.length) (u:Value):Fill (w.setCell ⟨g,i,none⟩ u) g t N (ds.set i u):=by
 obtain ⟨cs,h,rfl,hl,hc⟩:=h
 refine ⟨cs.setIfInBounds i u,?_,by simp,by simpa using hl,fun j v hv=>?_⟩
 ·simp [World.setCell,Array.getElem?_modify,h]
 ·by_cases hj:i = j
  ·subst hj
   rw [List.getElem?_set_self hi] at hv
   cases hv
   rw [Array.getElem?_setIfInBounds_self_of_lt (by omega)]
  ·rw [List.getElem?_set_ne hj] at hv
   rw [Array.getElem?_setIfInBounds_ne hj]
   exact hc j v hv
theorem Fill.at_ {w:World} {g:Nat} {t:TypeId} {N:Nat} {ds:List Value} (h:Fill w g t N ds) {j:Nat} {u:Value} (hj:ds[j]? = some u):w.cell? ⟨g,j,none⟩ = some u:=by have:=h.cells j u hj;simpa using this
end Go.Proofs.YtnjibbpcafgglaaGreat
namespace Go.Proofs.YtnjibbpcafgglaaGreat
open Go.ChangeShapes Go.WideShapes Go.ChangeAt Go.RowKit
set_option linter.unusedVariables false
set_option linter.unusedSimpArgs false
theorem anQ:(Tryz.prog.info? 126).map (fun i=>(i.zero,i.size,i.bytes)) = some (some ((.agg #[.string ⟨#[]⟩,.string ⟨#[]⟩])),2,32):=by kernel_rfl
theorem afn:DL Tryz.prog 48 126 ((.agg #[.string ⟨#[]⟩,.string ⟨#[]⟩])) 2 32:=⟨Tryz.underlying48,anQ,rfl,by omega⟩
set_option maxRecDepth 100000 in
set_option maxHeartbeats 1000000 in
theorem aei (xs:List Label) (A:Option Addr) (c:Nat) (F:List Nat) (w:World) (h:Sl w xs A c F) (hl:(xs.length:Int)≤1048576) :
 Calls Tryz.prog 91 #[.slice A xs.length c] w fun e w'=>∃A' c' ds G,e = .returned (.slice A' xs.length c')∧w'.ownsRow w.heap.size 126 2 (.slice A' xs.length c') xs.length ds∧jo w' xs ds G∧(∀b∈G,b∈F)∧Below w.heap.size w w':=by
 cases A with
 | none =>
   obtain rfl:xs = []:=by
    obtain ⟨A',c',G,ds,e0,_,_,_,h0⟩:=h
    simp only [List.cons.injEq,Value.slice.injEq,and_true,true_and] at e0
    rcases h0 with h0 | ⟨b,o,hA,_⟩
    ·exact h0.1
    ·rw [← e0.1] at hA;cases hA
   have q22:∀(w:World) (a:Option Addr) (n c n' c':Nat),(binOp .eql 48 (.slice a n c) (.slice none n' c')).run Tryz.prog w = .ok (.bool a.isNone) w:=fun w a n c n' c'=>Lib.run_eql_slice_nil w _ _ a n c n' c' Tryz.underlying48
   go_enter Tryz.func91,Tryz.ntmps91
   go_wp2
   go_ret
   exact ⟨none,0,[],[],rfl,World.ownsRow_nil w _ _ _,⟨rfl,rfl⟩,(fun b hb=>by cases hb),aj _⟩
 | some ad =>
   have H:=Lib.hid h
   clear h
   have q22:∀(w:World) (a:Option Addr) (n c n' c':Nat),(binOp .eql 48 (.slice a n c) (.slice none n' c')).run Tryz.prog w = .ok (.bool a.isNone) w:=fun w a n c n' c'=>Lib.run_eql_slice_nil w _ _ a n c n' c' Tryz.underlying48
   go_enter Tryz.func91,Tryz.ntmps91
   go_wp2_with (
    at_builtin
    go_must (refine rW afn (by rfl) (by rfl) _ _ (by rfl) _ w.heap.size _ 0 [] (World.ownsRow_made (size:=2) w #[] 0 (Nat.le_refl _) (Nat.zero_le _) (by simp)) (by rfl) xs (some ad) c F (H.out.ext (ak (aj _) _)) (by rfl) (by omega) (by omega) (by simp) ?_)
    intro v2 w2 ds G hrc hsub hown hg hat
    go_must (obtain ⟨A2,c2,hv2⟩:=mY hown)
    go_must (subst hv2))
   simp only [Nat.zero_add,List.nil_append] at hown
   go_ret
   refine ⟨A2,c2,ds,G,by simp,hown,hrc.frame (fun b hb=>hg.block b (hrc.lt b hb) (fun e=>?_)) hg.size,hsub,lS (World.ownsRow_made (e:=126) (size:=2) w #[] 0 (Nat.le_refl _) (Nat.zero_le _) (by simp)) hg (ak (aj _) _) (by simp)⟩
   have h1:=H.out.lt b (hsub b hb)
   simp [Value.ownBlock] at e
   omega
theorem acO {w:World} {x:Label} {cs:List Value} {F:List Nat} (h:rd w x cs F):F = []:=by obtain ⟨_,hF,_⟩:=vO h;exact hF
theorem Xo (xs:List Label) (A:Option Addr) (c:Nat) (F:List Nat) (w:World) (h:Sl w xs A c F) (hl:(xs.length:Int)≤1048576) :
 Calls Tryz.prog 91 #[.slice A xs.length c] w fun e w'=>∃A' c' F',e = .returned (.slice A' xs.length c')∧Own w' w.heap.size xs [.slice A' xs.length c'] F'∧Below w.heap.size w w':=by
 refine (aei xs A c F w h hl).mono ?_
 rintro e w' ⟨A',c',ds,G,rfl,hown,hrc,_,hb⟩
 obtain ⟨A2,c2,G2,hv,hO⟩:=Own.of_flat acO hown hrc
 simp only [Value.slice.injEq,true_and] at hv
 obtain ⟨rfl,rfl⟩:=hv
 exact ⟨A',c',G2,rfl,hO,hb⟩
theorem anR:(Tryz.prog.info? 129).map (fun i=>(i.zero,i.size,i.bytes)) = some (some ((.agg #[.string ⟨#[]⟩,.string ⟨#[]⟩,.int .i64 0])),3,40):=by kernel_rfl
theorem alP:DL Tryz.prog 79 129 ((.agg #[.string ⟨#[]⟩,.string ⟨#[]⟩,.int .i64 0])) 3 40:=⟨Tryz.underlying79,anR,rfl,by omega⟩
set_option maxRecDepth 100000 in
set_option maxHeartbeats 1000000 in
theorem aej (xs:List iU) (A:Option Addr) (c:Nat) (F:List Nat) (w:World) (h:Sl w xs A c F) (hl:(xs.length:Int)≤1048576) :
 Calls Tryz.prog 92 #[.slice A xs.length c] w fun e w'=>∃A' c' ds G,e = .returned (.slice A' xs.length c')∧w'.ownsRow w.heap.size 129 3 (.slice A' xs.length c') xs.length ds∧jo w' xs ds G∧(∀b∈G,b∈F)∧Below w.heap.size w w':=by
 cases A with
 | none =>
   obtain rfl:xs = []:=by
    obtain ⟨A',c',G,ds,e0,_,_,_,h0⟩:=h
    simp only [List.cons.injEq,Value.slice.injEq,and_true,true_and] at e0
    rcases h0 with h0 | ⟨b,o,hA,_⟩
    ·exact h0.1
    ·rw [← e0.1] at hA;cases hA
   have q22:∀(w:World) (a:Option Addr) (n c n' c':Nat),(binOp .eql 79 (.slice a n c) (.slice none n' c')).run Tryz.prog w = .ok (.bool a.isNone) w:=fun w a n c n' c'=>Lib.run_eql_slice_nil w _ _ a n c n' c' Tryz.underlying79
   go_enter Tryz.func92,Tryz.ntmps92
   go_wp2
   go_ret
   exact ⟨none,0,[],[],rfl,World.ownsRow_nil w _ _ _,⟨rfl,rfl⟩,(fun b hb=>by cases hb),aj _⟩
 | some ad =>
   have H:=Lib.hid h
   clear h
   have q22:∀(w:World) (a:Option Addr) (n c n' c':Nat),(binOp .eql 79 (.slice a n c) (.slice none n' c')).run Tryz.prog w = .ok (.bool a.isNone) w:=fun w a n c n' c'=>Lib.run_eql_slice_nil w _ _ a n c n' c' Tryz.underlying79
   go_enter Tryz.func92,Tryz.ntmps92
   go_wp2_with (
    at_builtin
    go_must (refine rW alP (by rfl) (by rfl) _ _ (by rfl) _ w.heap.size _ 0 [] (World.ownsRow_made (size:=3) w #[] 0 (Nat.le_refl _) (Nat.zero_le _) (by simp)) (by rfl) xs (some ad) c F (H.out.ext (ak (aj _) _)) (by rfl) (by omega) (by omega) (by simp) ?_)
    intro v2 w2 ds G hrc hsub hown hg hat
    go_must (obtain ⟨A2,c2,hv2⟩:=mY hown)
    go_must (subst hv2))
   simp only [Nat.zero_add,List.nil_append] at hown
   go_ret
   refine ⟨A2,c2,ds,G,by simp,hown,hrc.frame (fun b hb=>hg.block b (hrc.lt b hb) (fun e=>?_)) hg.size,hsub,lS (World.ownsRow_made (e:=129) (size:=3) w #[] 0 (Nat.le_refl _) (Nat.zero_le _) (by simp)) hg (ak (aj _) _) (by simp)⟩
   have h1:=H.out.lt b (hsub b hb)
   simp [Value.ownBlock] at e
   omega
theorem aiH {w:World} {x:iU} {cs:List Value} {F:List Nat} (h:rd w x cs F):F = []:=by obtain ⟨_,hF,_⟩:=oK h;exact hF
theorem afo (xs:List iU) (A:Option Addr) (c:Nat) (F:List Nat) (w:World) (h:Sl w xs A c F) (hl:(xs.length:Int)≤1048576) :
 Calls Tryz.prog 92 #[.slice A xs.length c] w fun e w'=>∃A' c' F',e = .returned (.slice A' xs.length c')∧Own w' w.heap.size xs [.slice A' xs.length c'] F'∧Below w.heap.size w w':=by
 refine (aej xs A c F w h hl).mono ?_
 rintro e w' ⟨A',c',ds,G,rfl,hown,hrc,_,hb⟩
 obtain ⟨A2,c2,G2,hv,hO⟩:=Own.of_flat aiH hown hrc
 simp only [Value.slice.injEq,true_and] at hv
 obtain ⟨rfl,rfl⟩:=hv
 exact ⟨A',c',G2,rfl,hO,hb⟩
theorem afp:(Tryz.prog.info? 132).map (fun i=>(i.zero,i.size,i.bytes)) = some (some ((.agg #[.string ⟨#[]⟩,.bool false,.string ⟨#[]⟩,.int .i64 0])),4,48):=by kernel_rfl
theorem abo:DL Tryz.prog 50 132 ((.agg #[.string ⟨#[]⟩,.bool false,.string ⟨#[]⟩,.int .i64 0])) 4 48:=⟨Tryz.underlying50,afp,rfl,by omega⟩
set_option maxRecDepth 100000 in
set_option maxHeartbeats 1000000 in
theorem Y5 (xs:List bH) (A:Option Addr) (c:Nat) (F:List Nat) (w:World) (h:Sl w xs A c F) (hl:(xs.length:Int)≤1048576) :
 Calls Tryz.prog 94 #[.slice A xs.length c] w fun e w'=>∃A' c' ds G,e = .returned (.slice A' xs.length c')∧w'.ownsRow w.heap.size 132 4 (.slice A' xs.length c') xs.length ds∧jo w' xs ds G∧(∀b∈G,b∈F)∧Below w.heap.size w w':=by
 cases A with
 | none =>
   obtain rfl:xs = []:=by
    obtain ⟨A',c',G,ds,e0,_,_,_,h0⟩:=h
    simp only [List.cons.injEq,Value.slice.injEq,and_true,true_and] at e0
    rcases h0 with h0 | ⟨b,o,hA,_⟩
    ·exact h0.1
    ·rw [← e0.1] at hA;cases hA
   have q22:∀(w:World) (a:Option Addr) (n c n' c':Nat),(binOp .eql 50 (.slice a n c) (.slice none n' c')).run Tryz.prog w = .ok (.bool a.isNone) w:=fun w a n c n' c'=>Lib.run_eql_slice_nil w _ _ a n c n' c' Tryz.underlying50
   go_enter Tryz.func94,Tryz.ntmps94
   go_wp2
   go_ret
   exact ⟨none,0,[],[],rfl,World.ownsRow_nil w _ _ _,⟨rfl,rfl⟩,(fun b hb=>by cases hb),aj _⟩
 | some ad =>
   have H:=Lib.hid h
   clear h
   have q22:∀(w:World) (a:Option Addr) (n c n' c':Nat),(binOp .eql 50 (.slice a n c) (.slice none n' c')).run Tryz.prog w = .ok (.bool a.isNone) w:=fun w a n c n' c'=>Lib.run_eql_slice_nil w _ _ a n c n' c' Tryz.underlying50
   go_enter Tryz.func94,Tryz.ntmps94
   go_wp2_with (
    at_builtin
    go_must (refine rW abo (by rfl) (by rfl) _ _ (by rfl) _ w.heap.size _ 0 [] (World.ownsRow_made (size:=4) w #[] 0 (Nat.le_refl _) (Nat.zero_le _) (by simp)) (by rfl) xs (some ad) c F (H.out.ext (ak (aj _) _)) (by rfl) (by omega) (by omega) (by simp) ?_)
    intro v2 w2 ds G hrc hsub hown hg hat
    go_must (obtain ⟨A2,c2,hv2⟩:=mY hown)
    go_must (subst hv2))
   simp only [Nat.zero_add,List.nil_append] at hown
   go_ret
   refine ⟨A2,c2,ds,G,by simp,hown,hrc.frame (fun b hb=>hg.block b (hrc.lt b hb) (fun e=>?_)) hg.size,hsub,lS (World.ownsRow_made (e:=132) (size:=4) w #[] 0 (Nat.le_refl _) (Nat.zero_le _) (by simp)) hg (ak (aj _) _) (by simp)⟩
   have h1:=H.out.lt b (hsub b hb)
   simp [Value.ownBlock] at e
   omega
theorem Zk {w:World} {x:bH} {cs:List Value} {F:List Nat} (h:rd w x cs F):F = []:=by obtain ⟨_,hF,_⟩:=jv h;exact hF
theorem aap (xs:List bH) (A:Option Addr) (c:Nat) (F:List Nat) (w:World) (h:Sl w xs A c F) (hl:(xs.length:Int)≤1048576) :
 Calls Tryz.prog 94 #[.slice A xs.length c] w fun e w'=>∃A' c' F',e = .returned (.slice A' xs.length c')∧Own w' w.heap.size xs [.slice A' xs.length c'] F'∧Below w.heap.size w w':=by
 refine (Y5 xs A c F w h hl).mono ?_
 rintro e w' ⟨A',c',ds,G,rfl,hown,hrc,_,hb⟩
 obtain ⟨A2,c2,G2,hv,hO⟩:=Own.of_flat Zk hown hrc
 simp only [Value.slice.injEq,true_and] at hv
 obtain ⟨rfl,rfl⟩:=hv
 exact ⟨A',c',G2,rfl,hO,hb⟩
theorem Xj:(Tryz.prog.info? 9).map (fun i=>(i.zero,i.size,i.bytes)) = some (some (.string ⟨#[]⟩),1,16):=by kernel_rfl
theorem Ud:DL Tryz.prog 65 9 (.string ⟨#[]⟩) 1 16:=⟨Tryz.underlying65,Xj,rfl,by omega⟩
set_option maxRecDepth 100000 in
set_option maxHeartbeats 1000000 in
theorem LP (xs:List ByteArray) (A:Option Addr) (c:Nat) (F:List Nat) (w:World) (h:Sl w xs A c F) (hl:(xs.length:Int)≤1048576) :
 Calls Tryz.prog 138 #[.slice A xs.length c] w fun e w'=>∃A' c' ds G,e = .returned (.slice A' xs.length c')∧w'.ownsRow w.heap.size 9 1 (.slice A' xs.length c') xs.length ds∧jo w' xs ds G∧(∀b∈G,b∈F)∧Below w.heap.size w w':=by
 cases A with
 | none =>
   obtain rfl:xs = []:=by
    obtain ⟨A',c',G,ds,e0,_,_,_,h0⟩:=h
    simp only [List.cons.injEq,Value.slice.injEq,and_true,true_and] at e0
    rcases h0 with h0 | ⟨b,o,hA,_⟩
    ·exact h0.1
    ·rw [← e0.1] at hA;cases hA
   have q22:∀(w:World) (a:Option Addr) (n c n' c':Nat),(binOp .eql 65 (.slice a n c) (.slice none n' c')).run Tryz.prog w = .ok (.bool a.isNone) w:=fun w a n c n' c'=>Lib.run_eql_slice_nil w _ _ a n c n' c' Tryz.underlying65
   go_enter Tryz.func138,Tryz.ntmps138
   go_wp2
   go_ret
   exact ⟨none,0,[],[],rfl,World.ownsRow_nil w _ _ _,⟨rfl,rfl⟩,(fun b hb=>by cases hb),aj _⟩
 | some ad =>
   have H:=Lib.hid h
   clear h
   have q22:∀(w:World) (a:Option Addr) (n c n' c':Nat),(binOp .eql 65 (.slice a n c) (.slice none n' c')).run Tryz.prog w = .ok (.bool a.isNone) w:=fun w a n c n' c'=>Lib.run_eql_slice_nil w _ _ a n c n' c' Tryz.underlying65
   go_enter Tryz.func138,Tryz.ntmps138
   go_wp2_with (
    at_builtin
    go_must (refine rW Ud (by rfl) (by rfl) _ _ (by rfl) _ w.heap.size _ 0 [] (World.ownsRow_made (size:=1) w #[] 0 (Nat.le_refl _) (Nat.zero_le _) (by simp)) (by rfl) xs (some ad) c F (H.out.ext (ak (aj _) _)) (by rfl) (by omega) (by omega) (by simp) ?_)
    intro v2 w2 ds G hrc hsub hown hg hat
    go_must (obtain ⟨A2,c2,hv2⟩:=mY hown)
    go_must (subst hv2))
   simp only [Nat.zero_add,List.nil_append] at hown
   go_ret
   refine ⟨A2,c2,ds,G,by simp,hown,hrc.frame (fun b hb=>hg.block b (hrc.lt b hb) (fun e=>?_)) hg.size,hsub,lS (World.ownsRow_made (e:=9) (size:=1) w #[] 0 (Nat.le_refl _) (Nat.zero_le _) (by simp)) hg (ak (aj _) _) (by simp)⟩
   have h1:=H.out.lt b (hsub b hb)
   simp [Value.ownBlock] at e
   omega
theorem P8 {w:World} {x:ByteArray} {cs:List Value} {F:List Nat} (h:rd w x cs F):F = []:=h.2.1
theorem Ox (xs:List ByteArray) (A:Option Addr) (c:Nat) (F:List Nat) (w:World) (h:Sl w xs A c F) (hl:(xs.length:Int)≤1048576) :
 Calls Tryz.prog 138 #[.slice A xs.length c] w fun e w'=>∃A' c' F',e = .returned (.slice A' xs.length c')∧Own w' w.heap.size xs [.slice A' xs.length c'] F'∧Below w.heap.size w w':=by
 refine (LP xs A c F w h hl).mono ?_
 rintro e w' ⟨A',c',ds,G,rfl,hown,hrc,_,hb⟩
 obtain ⟨A2,c2,G2,hv,hO⟩:=Own.of_flat P8 hown hrc
 simp only [Value.slice.injEq,true_and] at hv
 obtain ⟨rfl,rfl⟩:=hv
 exact ⟨A',c',G2,rfl,hO,hb⟩
theorem apQ:(Tryz.prog.info? 141).map (fun i=>(i.zero,i.size,i.bytes)) = some (some ((.agg #[.string ⟨#[]⟩,.int .i64 0,.slice none 0 0])),3,48):=by kernel_rfl
theorem apf:DL Tryz.prog 49 141 ((.agg #[.string ⟨#[]⟩,.int .i64 0,.slice none 0 0])) 3 48:=⟨Tryz.underlying49,apQ,rfl,by omega⟩
set_option maxRecDepth 100000 in
set_option maxHeartbeats 1000000 in
theorem afq (xs:List Need) (A:Option Addr) (c:Nat) (F:List Nat) (w:World) (h:Sl w xs A c F) (hl:(xs.length:Int)≤1048576) :
 Calls Tryz.prog 137 #[.slice A xs.length c] w fun e w'=>∃A' c' ds G,e = .returned (.slice A' xs.length c')∧w'.ownsRow w.heap.size 141 3 (.slice A' xs.length c') xs.length ds∧jo w' xs ds G∧(∀b∈G,b∈F)∧Below w.heap.size w w':=by
 cases A with
 | none =>
   obtain rfl:xs = []:=by
    obtain ⟨A',c',G,ds,e0,_,_,_,h0⟩:=h
    simp only [List.cons.injEq,Value.slice.injEq,and_true,true_and] at e0
    rcases h0 with h0 | ⟨b,o,hA,_⟩
    ·exact h0.1
    ·rw [← e0.1] at hA;cases hA
   have q22:∀(w:World) (a:Option Addr) (n c n' c':Nat),(binOp .eql 49 (.slice a n c) (.slice none n' c')).run Tryz.prog w = .ok (.bool a.isNone) w:=fun w a n c n' c'=>Lib.run_eql_slice_nil w _ _ a n c n' c' Tryz.underlying49
   go_enter Tryz.func137,Tryz.ntmps137
   go_wp2
   go_ret
   exact ⟨none,0,[],[],rfl,World.ownsRow_nil w _ _ _,⟨rfl,rfl⟩,(fun b hb=>by cases hb),aj _⟩
 | some ad =>
   have H:=Lib.hid h
   clear h
   have q22:∀(w:World) (a:Option Addr) (n c n' c':Nat),(binOp .eql 49 (.slice a n c) (.slice none n' c')).run Tryz.prog w = .ok (.bool a.isNone) w:=fun w a n c n' c'=>Lib.run_eql_slice_nil w _ _ a n c n' c' Tryz.underlying49
   go_enter Tryz.func137,Tryz.ntmps137
   go_wp2_with (
    at_builtin
    go_must (refine rW apf (by rfl) (by rfl) _ _ (by rfl) _ w.heap.size _ 0 [] (World.ownsRow_made (size:=3) w #[] 0 (Nat.le_refl _) (Nat.zero_le _) (by simp)) (by rfl) xs (some ad) c F (H.out.ext (ak (aj _) _)) (by rfl) (by omega) (by omega) (by simp) ?_)
    intro v2 w2 ds G hrc hsub hown hg hat
    go_must (obtain ⟨A2,c2,hv2⟩:=mY hown)
    go_must (subst hv2))
   simp only [Nat.zero_add,List.nil_append] at hown
   go_ret
   refine ⟨A2,c2,ds,G,by simp,hown,hrc.frame (fun b hb=>hg.block b (hrc.lt b hb) (fun e=>?_)) hg.size,hsub,lS (World.ownsRow_made (e:=141) (size:=3) w #[] 0 (Nat.le_refl _) (Nat.zero_le _) (by simp)) hg (ak (aj _) _) (by simp)⟩
   have h1:=H.out.lt b (hsub b hb)
   simp [Value.ownBlock] at e
   omega
end Go.Proofs.YtnjibbpcafgglaaGreat
namespace Go.Proofs.YtnjibbpcafgglaaGreat
open Go.ChangeShapes Go.WideShapes Go.ChangeAt Go.RowKit
set_option linter.unusedVariables false
set_option linter.unusedSimpArgs false
set_option maxRecDepth 100000 in
set_option maxHeartbeats 2000000 in
theorem ahY (xs:List Need) (A:Option Addr) (c:Nat) (F:List Nat) (w:World) (h:Sl w xs A c F) (hl:(xs.length:Int)≤1048576) (hv:∀x∈xs,(x.values.length:Int)≤1048576) :
 Calls Tryz.prog 93 #[.slice A xs.length c] w fun e w'=>∃A' c' F',e = .returned (.slice A' xs.length c')∧Own w' w.heap.size xs [.slice A' xs.length c'] F'∧Below w.heap.size w w':=by
 have HV:=Lib.hid hv
 clear hv
 go_enter Tryz.func93,Tryz.ntmps93
 go_wp2_with fail
 refine (afq xs A c F w h hl).mono ?_
 rintro e w1 ⟨A',c',ds,G,rfl,hown,hrc,hsub,hb1⟩
 rcases Fill.oJ hown with ⟨hv,hn⟩ | ⟨g,cap,N,hv,hg,hfill,hcap,hmx⟩
 ·obtain rfl:=List.eq_nil_of_length_eq_zero hn
  simp only [Value.slice.injEq] at hv
  obtain ⟨rfl,_,rfl⟩:=hv
  clear hown hrc
  simp only [List.length_nil] at *
  have hlt:(0:Int) < 0↔False:=by simp
  go_wp2_with fail
  go_loopw [10] (fun i wr=>i = .int .i64 0∧wr = w1) (fun _ _=>0)
  case atStart=>exact ⟨rfl,rfl⟩
  case round =>
   obtain ⟨rfl,rfl⟩:=hrel
   go_wp2
   go_ret
   exact ⟨_,_,_,rfl,⟨Sl.nil _ none 0 (Nat.zero_le _),List.nodup_nil,(fun b hb=>by cases hb),(fun b hb=>by cases hb)⟩,hb1⟩
 ·simp only [Value.slice.injEq,true_and] at hv
  obtain ⟨rfl,rfl⟩:=hv
  clear hown
  go_wp2_with fail
  go_loopw [10] (fun i wr=>∃(k:Nat) (es d2:List Value) (G2 F':List Nat),k≤xs.length∧i = .int .i64 k∧Hid (es.length = k * 3)∧Fill wr g 141 N (es++d2)∧jo w1 (xs.drop k) d2 G2∧aY wr (g+1) (xs.take k) es F'∧Below w.heap.size w wr) (fun i _=>xs.length - (intOf i).toNat)
  case atStart=>exact ⟨0,[],ds,G,[],Nat.zero_le _,rfl,by show _ = _;simp,by simpa using hfill,by simpa using hrc,aY.nil _ _,hb1⟩
  case round =>
   obtain ⟨k,es,d2,G2,F',hk,rfl,hd,hf,hr2,hO,hbl⟩:=hrel
   by_cases hlt:k < xs.length
   ·have hdk:xs.drop k = xs[k] :: xs.drop (k+1):=(List.getElem_cons_drop ..).symm
    rw [hdk] at hr2
    obtain ⟨c1,d3,F1,F3,rfl,_,hr3,hr4⟩:=hr2
    obtain ⟨DT,DU,alQ,hck,hF3,adC,hop3,abp⟩:=og hr3
    subst hck
    clear hF3 hr3 hdk
    obtain ⟨b,o,ck,Fk,rfl,o9,hbs,hr,hsub2,hc⟩:=(h.ext hbl).get hlt
    obtain ⟨pX,pY,KG,hck,hF1,xO,hop1,wO⟩:=og hr
    subst hck
    clear hF1 hr
    have q0:wr.cell? ⟨b,o+k * 3,none⟩ = some (.string xs[k].key):=by exact hc 0 _ rfl
    have q1:wr.cell? ⟨b,o+k * 3+1,none⟩ = some (.int .i64 xs[k].op):=by rw [Nat.add_assoc];exact hc 1 _ rfl
    have q2:wr.cell? ⟨b,o+k * 3+2,none⟩ = some (.slice pX xs[k].values.length pY):=by rw [Nat.add_assoc];exact hc 2 _ rfl
    clear hc
    have hvl:=HV.out xs[k] (List.getElem_mem hlt)
    have hfl:=hf.lt
    have hlf:(es++(([.string xs[k].key,.int .i64 xs[k].op,.slice DT xs[k].values.length DU]:List Value)++d3)).length≤N:=by obtain ⟨_,_,_,h3,_⟩:=hf;exact h3
    simp only [List.length_append,List.length_cons,List.length_nil] at hlf
    go_wp2_with fail
    refine (Ox xs[k].values _ _ _ _ (wO.ext atS) hvl).mono ?_
    rintro e w2 ⟨A2,c2,G2',rfl,hO2,hb2⟩
    have iL:Below wr.heap.size wr w2:=ah (ak (aj _) _) hb2
    have hfW:=hf.keep (iL.block _ hfl)
    have hfz:=hfW.frozen (k * 3+2)
    obtain ⟨u2,hu2⟩:∃u,w2.cell? ⟨g,k * 3+2,none⟩ = some u:=hfW.cell (i:=k * 3+2) auz
    have hzz:wr.heap.size < w2.heap.size:=by have:=hb2.size;simp at this;omega
    go_wp2_with fail
    have hF:=hfW.set (i:=k * 3+2) (by have:=hd.out;simp;omega) (.slice A2 xs[k].values.length c2)
    have hset:(es++(([.string xs[k].key,.int .i64 xs[k].op,.slice DT xs[k].values.length DU]:List Value)++d3)).set (k * 3+2) (.slice A2 xs[k].values.length c2) = (es++[.string xs[k].key,.int .i64 xs[k].op,.slice A2 xs[k].values.length c2])++d3:=by
     rw [List.set_append_right _ _ (show es.length≤k * 3+2 from by have:=hd.out;omega),show k * 3+2 - es.length = 2 from by have:=hd.out;omega]
     simp
    rw [hset] at hF
    have hOn:Own w2 (g+1) xs[k] [.string xs[k].key,.int .i64 xs[k].op,.slice A2 xs[k].values.length c2] G2':=by
     refine Own.up (B':=g+1) (fun x:Need=>(x.key,x.op,x.values)) ?_ (Nat.le_refl _)
     refine Own.cons (c1:=[.string xs[k].key]) (rdStr _ _ (rV xO)) ?_
     refine Own.cons (c1:=[.int .i64 xs[k].op]) (jL _ _ hop1) ?_
     exact hO2.mono (by simp;omega)
    have hP:=(hO.ext iL).push (B':=wr.heap.size) (x:=xs[k]) ⟨hOn.rd,hOn.nodup,fun b hb=>by have:=hO2.base b hb;simp at this;omega,hOn.plain⟩ hfl hO.lt
    rw [← List.take_succ_eq_append_getElem hlt] at hP
    exact ⟨⟨k+1,es++[.string xs[k].key,.int .i64 xs[k].op,.slice A2 xs[k].values.length c2],d3,F3,_,by omega,by go_num,by show _ = _;(simp [hd.out]) <;> omega,hF,hr4,hP.setCell (p:=⟨g,k * 3+2,none⟩) (Nat.lt_succ_self _) _,aC (ah hbl iL) hg _⟩,by simp [intOf];omega⟩
   ·have hkl:k = xs.length:=by omega
    subst hkl
    rw [List.drop_length] at hr2
    obtain ⟨rfl,_⟩:=hr2
    rw [List.append_nil] at hf
    rw [List.take_length] at hO
    go_wp2
    go_ret
    exact ⟨_,_,_,rfl,(Own.Ep hf hO hcap hmx).mono hg,hbl⟩
set_option maxRecDepth 100000 in
set_option maxHeartbeats 2000000 in
theorem alR (xs:List Need) (A:Option Addr) (c:Nat) (F:List Nat) (w:World) (h:Sl w xs A c F) (hl:(xs.length:Int)≤1048576) (hv:∀x∈xs,(x.values.length:Int)≤1048576) :
 Calls Tryz.prog 79 #[.slice A xs.length c] w fun e w'=>∃A' c' F',e = .returned (.slice A' xs.length c')∧Own w' w.heap.size xs [.slice A' xs.length c'] F'∧Below w.heap.size w w':=by
 have HV:=Lib.hid hv
 clear hv
 go_enter Tryz.func79,Tryz.ntmps79
 go_wp2_with fail
 go_loopw [3,4] (fun v i wr=>∃(k:Nat) (ds:List Value) (F':List Nat),k≤xs.length∧i = .int .i64 k∧wr.ownsRow w.heap.size 141 3 v k ds∧aY wr w.heap.size (xs.take k) ds F'∧(∀g,v.ownBlock = some g→g∉F')∧Below w.heap.size w wr) (fun _ i _=>xs.length - (intOf i).toNat)
 case atStart=>exact ⟨0,[],[],Nat.zero_le _,rfl,World.ownsRow_made (size:=3) w #[] 0 (Nat.le_refl _) (Nat.zero_le _) (by simp),aY.nil _ _,(fun g _ hm=>by cases hm),ak (aj _) _⟩
 case round =>
  obtain ⟨k,ds,F',hk,rfl,hown,hO,hne,hbl⟩:=hrel
  by_cases hlt:k < xs.length
  ·obtain ⟨b,o,ck,Fk,rfl,o9,hbs,hr,hsub2,hc⟩:=(h.ext hbl).get hlt
   obtain ⟨pX,pY,KG,hck,hF1,xO,hop1,wO⟩:=og hr
   subst hck
   clear hF1 hr
   have q0:wr.cell? ⟨b,o+k * 3,none⟩ = some (.string xs[k].key):=by exact hc 0 _ rfl
   have q1:wr.cell? ⟨b,o+k * 3+1,none⟩ = some (.int .i64 xs[k].op):=by rw [Nat.add_assoc];exact hc 1 _ rfl
   have q2:wr.cell? ⟨b,o+k * 3+2,none⟩ = some (.slice pX xs[k].values.length pY):=by rw [Nat.add_assoc];exact hc 2 _ rfl
   clear hc
   have hvl:=HV.out xs[k] (List.getElem_mem hlt)
   obtain ⟨Av,cv,hv0⟩:=mY hown
   subst hv0
   have HO:=Lib.hid hown
   have HN:=Lib.hid hne
   have HBL:=Lib.hid hbl
   have Y6:=Lib.hid hO.lt
   clear hown hne hbl
   have hbox:=oG.new wr [.string xs[k].key,.int .i64 xs[k].op,.slice pX xs[k].values.length pY] 141
   have HM:=Lib.hid (show ((wr.alloc (.cells ([.string xs[k].key,.int .i64 xs[k].op,.slice pX xs[k].values.length pY]:List Value).toArray 141)).alloc (.cells #[] 9)).ownsRow (wr.heap.size+1) 9 1 (.slice (some ⟨wr.heap.size+1,0,none⟩) 0 0) 0 [] from by
    have:=World.ownsRow_made (base:=wr.heap.size+1) (e:=9) (size:=1) (wr.alloc (.cells ([.string xs[k].key,.int .i64 xs[k].op,.slice pX xs[k].values.length pY]:List Value).toArray 141)) #[] 0 (by simp) (Nat.zero_le _) (by simp)
    rw [World.size_alloc] at this
    exact this)
   go_wp2_with (first
    | (at_builtin
       refine rW (o:=⟨some 20,_,_,_,_,_⟩) Ud (by rfl) (by rfl) _ _ (by rfl) _ (wr.heap.size+1) _ 0 [] HM.out (by rfl) xs[k].values pX pY _ (wO.ext (ak (ak (aj _) _) _)) (by rfl) (by omega) (by omega) (by simp) ?_
       intro v2 w2 ds2 G hrc hsub hown2 hg hat
       go_must (obtain ⟨A2,c2,hv2⟩:=mY hown2)
       go_must (subst hv2)
       go_must (simp only [Nat.zero_add,List.nil_append] at hown2)
       go_must (have hb2:Below wr.heap.size wr w2:=lS (vP HM.out (Nat.le_succ _)) hg (ak (ak (aj _) _) _) (by simp;omega))
       go_must (have afr:oG w2 wr.heap.size [.string xs[k].key,.int .i64 xs[k].op,.slice pX xs[k].values.length pY]:=hbox.keep ((hg.block _ (by simp;omega) avf).trans (heap_alloc_old _ _ (by simp))))
       go_must (have hrc2:jo w2 xs[k].values ds2 G:=hrc.frame (fun b hb=>hg.block b (hrc.lt b hb) (fun e=>by have:=(wO.lt b (hsub b hb));simp [Value.ownBlock] at e;omega)) hg.size)
       go_must (obtain ⟨A3,c3,G3,hv3,hO2⟩:=Own.of_flat P8 hown2 hrc2)
       go_must (simp only [Value.slice.injEq,true_and] at hv3)
       go_must (obtain ⟨rfl,rfl⟩:=hv3)
       go_must (have k0:=afr.cell (i:=0) (u:=.string xs[k].key) rfl)
       go_must (have k1:=afr.cell (i:=1) (u:=.int .i64 xs[k].op) rfl)
       go_must (have k2:=afr.cell (i:=2) (u:=.slice pX xs[k].values.length pY) rfl)
       go_must (have kl:=afr.lt)
       go_must (have kf:=afr.fz 2)
       go_must (have hOn:Own w2 (wr.heap.size+1) xs[k] [.string xs[k].key,.int .i64 xs[k].op,.slice A2 xs[k].values.length c2] G3:=Own.up (B':=wr.heap.size+1) (fun x:Need=>(x.key,x.op,x.values)) (Own.cons (c1:=[.string xs[k].key]) (rdStr _ _ (rV xO)) (Own.cons (c1:=[.int .i64 xs[k].op]) (jL _ _ hop1) hO2)) (Nat.le_refl _))
       go_must (have hOs:=hOn.setCell (p:=⟨wr.heap.size,2,none⟩) (Nat.lt_succ_self _) (.slice A2 xs[k].values.length c2))
       go_must (have hrow:(w2.setCell ⟨wr.heap.size,2,none⟩ (.slice A2 xs[k].values.length c2)).ownsRow w.heap.size 141 3 (.slice Av k cv) k ds:=EJ (mG HO.out hb2) (fun g hg=>by have:=(HO.out.lt g hg).2;omega))
       go_must (have hcs:aY (w2.setCell ⟨wr.heap.size,2,none⟩ (.slice A2 xs[k].values.length c2)) w.heap.size (xs.take k) ds F':=(hO.ext hb2).keep (fun y hy=>Below.heap_setCell _ _ _ _ (by have:=hO.lt y hy;dsimp only;omega)) aua)
       go_must (have hbS:Below wr.heap.size wr (w2.setCell ⟨wr.heap.size,2,none⟩ (.slice A2 xs[k].values.length c2)):=aC hb2 (Nat.le_refl _) _)
       go_must (have hbx:=afr.put 2 (.slice A2 xs[k].values.length c2))
       go_must (have HOS:=Lib.hid hOs)
       go_must (have HR:=Lib.hid hrow)
       go_must (have HC:=Lib.hid hcs)
       go_must (have HBS:=Lib.hid hbS)
       go_must (have hzz:=hbS.size)
       go_must (clear hOn hO2 hrc hrc2 hown2 hO hbox afr hg hat hb2 hOs hcs hbS))
    | (at_builtin
       refine uf (o:=⟨some 25,_,_,_,_,_⟩) apf (by rfl) _ _ (by rfl) _ _ _ _ _ hrow (by rfl) [.string xs[k].key,.int .i64 xs[k].op,.slice A2 xs[k].values.length c2] aue (by rfl) aub (by omega) (by omega) (by have:=HBL.out.size;omega) ?_
       intro v4 w4 hown4 hg4 Wy hat4))
   have hbl:=HBL.out
   obtain ⟨hcs4,hne4⟩:=aY.afm (v':=v4) HR.out HC.out HN.out HOS.out (by have:=hbl.size;omega) (fun g hg=>by have:=(HO.out.lt g hg).2;omega) (fun y hy=>by have:=Y6.out y hy;omega) hg4 hat4
   rw [← List.take_succ_eq_append_getElem hlt] at hcs4
   exact ⟨⟨k+1,_,_,by omega,by go_num,hown4,hcs4,hne4,lS (vP HR.out (Nat.le_refl _)) hg4 (ah hbl HBS.out) (by have:=hbl.size;omega)⟩,by simp [intOf];omega⟩
  ·have hkl:k = xs.length:=by omega
   subst hkl
   rw [List.take_length] at hO
   obtain ⟨Ah,ch,Gh,rfl,Xp⟩:=Own.oJ hown hO hne
   go_wp2
   go_ret
   exact ⟨_,_,_,rfl,Xp,hbl⟩
end Go.Proofs.YtnjibbpcafgglaaGreat
namespace Go.Proofs.YtnjibbpcafgglaaGreat
open Go.ChangeShapes Go.WideShapes Go.ChangeAt Go.RowKit
set_option linter.unusedVariables false
set_option linter.unusedSimpArgs false
theorem OU (W:World) (e:TypeId) (size N:Nat) (hN:W.heap.size = N):(W.alloc (.cells #[] e)).ownsRow N e size (.slice (some ⟨N,0,none⟩) 0 0) 0 []:=by
 subst hN
 exact World.ownsRow_made W #[] 0 (Nat.le_refl _) (Nat.zero_le _) (by simp)
structure Cp (w wk:World) (cs zs:List Value):Prop where
 box:oG wk w.heap.size cs
 rb:oG wk (w.heap.size+1) zs
 below:Below w.heap.size w wk
section
variable {w wk w':World} {cs zs:List Value}
theorem Cp.new (w:World) (cs zs:List Value) (t t2:TypeId):Cp w ((w.alloc (.cells cs.toArray t)).alloc (.cells zs.toArray t2)) cs zs :=
 ⟨(oG.new w cs t).ext (ak (aj _) _),(by have:=oG.new (w.alloc (.cells cs.toArray t)) zs t2;rw [World.size_alloc] at this;exact this),ak (ak (aj _) _) _⟩
theorem Cp.ext (h:Cp w wk cs zs) (hb:Below wk.heap.size wk w'):Cp w w' cs zs:=⟨h.box.ext hb,h.rb.ext hb,ah h.below hb⟩
theorem Cp.put (h:Cp w wk cs zs) (i:Nat) (u:Value):Cp w (wk.setCell ⟨w.heap.size,i,none⟩ u) (cs.set i u) zs:=⟨h.box.put i u,h.rb.far (by omega) i u,aC h.below (Nat.le_refl _) u⟩
theorem Cp.lt (h:Cp w wk cs zs):w.heap.size+1 < wk.heap.size:=h.rb.lt
end
set_option maxRecDepth 100000 in
set_option maxHeartbeats 4000000 in
theorem ajs (x:Host) (cs:List Value) (F:List Nat) (w:World) (h:rd w x cs F) (hl1:(x.labels.length:Int)≤1048576) (hl2:(x.aT.length:Int)≤1048576) :
 Calls Tryz.prog 49 #[.agg cs.toArray] w fun e w'=>∃cs F,e = .returned (.agg cs.toArray)∧Own w' w.heap.size x cs F∧Below w.heap.size w w':=by
 obtain ⟨gu,gy,jw,kJ,kK,qU,hck,qp,hname,dO,vg,hmem,uI,jq⟩:=iy h
 subst hck
 clear qp h
 go_enter Tryz.func49,Tryz.ntmps49
 have S0:=Cp.new w [.string x.name,.slice gu x.labels.length gy,.int .i64 x.cpu,.int .i64 x.mem,.int .i64 x.slots,.slice kJ x.aT.length kK] [.string ⟨#[]⟩,.slice none 0 0,.int .i64 0,.int .i64 0,.int .i64 0,.slice none 0 0] 81 81
 go_wp2_with fail
 refine (Xo x.labels _ _ _ _ (dO.ext S0.below) hl1).mono ?_
 rintro e w1 ⟨A1,c1,G1,rfl,jX,hb1⟩
 have S1':=S0.ext hb1
 replace jX:=jX.mono (B':=w.heap.size+1+1) avq
 have k1:=S1'.box.cell (i:=1) (u:=.slice gu x.labels.length gy) rfl
 have f1:=S1'.box.fz 1
 have l1:=S1'.box.lt
 have anS:=Lib.hid (show ∀b∈G1,b < w1.heap.size from jX.lt)
 have S1:=S1'.put 1 (.slice A1 x.labels.length c1)
 replace jX:=jX.setCell (p:=⟨w.heap.size,1,none⟩) av3 (.slice A1 x.labels.length c1)
 have m1:=S1.box.cell (i:=5) (u:=.slice kJ x.aT.length kK) rfl
 have z1:=S1'.lt
 go_wp2_with fail
 refine (afo x.aT _ _ _ _ (jq.ext S1.below) hl2).mono ?_
 rintro e w2 ⟨A2,c2,G2,rfl,hO2,hb2⟩
 have S2':=S1.ext hb2
 replace hO2:=hO2.mono (B':=w1.heap.size) avq
 have k2:=S2'.box.cell (i:=5) (u:=.slice kJ x.aT.length kK) rfl
 have f2:=S2'.box.fz 5
 have l2:=S2'.box.lt
 have S2:=S2'.put 5 (.slice A2 x.aT.length c2)
 replace jX:=jX.ext hb2
 replace jX:=jX.setCell (p:=⟨w.heap.size,5,none⟩) au4 (.slice A2 x.aT.length c2)
 replace hO2:=hO2.setCell (p:=⟨w.heap.size,5,none⟩) au4 (.slice A2 x.aT.length c2)
 have q0:=S2.box.cell (i:=0) (u:=.string x.name) rfl
 have q1:=S2.box.cell (i:=1) (u:=.slice A1 x.labels.length c1) rfl
 have q2:=S2.box.cell (i:=2) (u:=.int .i64 x.cpu) rfl
 have q3:=S2.box.cell (i:=3) (u:=.int .i64 x.mem) rfl
 have q4:=S2.box.cell (i:=4) (u:=.int .i64 x.slots) rfl
 have q5:=S2.box.cell (i:=5) (u:=.slice A2 x.aT.length c2) rfl
 have r0:=S2.rb.cell (i:=0) (u:=.string ⟨#[]⟩) rfl
 have r1:=S2.rb.cell (i:=1) (u:=.slice none 0 0) rfl
 have r2:=S2.rb.cell (i:=2) (u:=.int .i64 0) rfl
 have r3:=S2.rb.cell (i:=3) (u:=.int .i64 0) rfl
 have r4:=S2.rb.cell (i:=4) (u:=.int .i64 0) rfl
 have r5:=S2.rb.cell (i:=5) (u:=.slice none 0 0) rfl
 have rf:=S2.rb.fz
 have rl:=S2.rb.lt
 have z2:=S2'.lt
 have y2:w1.heap.size≤w2.heap.size:=by have:=hb2.size;(try simp [World.setCell] at this);omega
 have HO1:=Lib.hid jX
 have RZ:=Lib.hid hO2
 have HS:=Lib.hid S2
 clear jX hO2 S1 S1' S2 S2' S0
 try dsimp only
 iterate 200 (first | go_step | skip)
 refine bodyPost_ret (v:=.agg #[.string x.name,.slice A1 x.labels.length c1,.int .i64 x.cpu,.int .i64 x.mem,.int .i64 x.slots,.slice A2 x.aT.length c2]) (by simp [results,Tryz.results49,go_sem, *]) rfl ⟨[.string x.name,.slice A1 x.labels.length c1,.int .i64 x.cpu,.int .i64 x.mem,.int .i64 x.slots,.slice A2 x.aT.length c2],(G1++G2),rfl,?_,?_⟩
 rotate_left
 ·exact au5
 refine Own.up (B':=w.heap.size+1+1) (fun x:Host=>(x.name,x.labels,x.cpu,x.mem,x.slots,x.aT)) ?_ (by omega)
 refine Own.cons (c1:=[.string x.name]) (rdStr _ x.name (rV hname)) ?_
 refine Own.pair (B2:=w1.heap.size) (c1:=[.slice A1 x.labels.length c1]) (F1:=G1) ?_ ?_ (by omega) anS.out
 ·exact av4
 refine Own.cons (c1:=[.int .i64 x.cpu]) (jL _ x.cpu vg) ?_
 refine Own.cons (c1:=[.int .i64 x.mem]) (jL _ x.mem hmem) ?_
 refine Own.cons (c1:=[.int .i64 x.slots]) (jL _ x.slots uI) ?_
 exact av5
set_option maxRecDepth 100000 in
set_option maxHeartbeats 4000000 in
theorem alS (x:nI) (cs:List Value) (F:List Nat) (w:World) (h:rd w x cs F) (hl1:(x.labels.length:Int)≤1048576) (hl2:(x.needs.length:Int)≤1048576) (hl3:(x.tolerances.length:Int)≤1048576) (hv:∀y∈x.needs,(y.values.length:Int)≤1048576) :
 Calls Tryz.prog 50 #[.agg cs.toArray] w fun e w'=>∃cs F,e = .returned (.agg cs.toArray)∧Own w' w.heap.size x cs F∧Below w.heap.size w w':=by
 have HV:=Lib.hid hv
 clear hv
 obtain ⟨gu,gy,jw,oh,nT,wG,fA,fB,jY,hck,qp,hname,dO,vg,hmem,BJ,mX,eG⟩:=dL h
 subst hck
 clear qp h
 go_enter Tryz.func50,Tryz.ntmps50
 have S0:=Cp.new w [.string x.name,.slice gu x.labels.length gy,.int .i64 x.cpu,.int .i64 x.mem,.int .i64 x.rank,.slice oh x.needs.length nT,.slice fA x.tolerances.length fB] [.string ⟨#[]⟩,.slice none 0 0,.int .i64 0,.int .i64 0,.int .i64 0,.slice none 0 0,.slice none 0 0] 52 52
 go_wp2_with fail
 refine (Xo x.labels _ _ _ _ (dO.ext S0.below) hl1).mono ?_
 rintro e w1 ⟨A1,c1,G1,rfl,jX,hb1⟩
 have S1':=S0.ext hb1
 replace jX:=jX.mono (B':=w.heap.size+1+1) avq
 have k1:=S1'.box.cell (i:=1) (u:=.slice gu x.labels.length gy) rfl
 have f1:=S1'.box.fz 1
 have l1:=S1'.box.lt
 have anS:=Lib.hid (show ∀b∈G1,b < w1.heap.size from jX.lt)
 have S1:=S1'.put 1 (.slice A1 x.labels.length c1)
 replace jX:=jX.setCell (p:=⟨w.heap.size,1,none⟩) av3 (.slice A1 x.labels.length c1)
 have m1:=S1.box.cell (i:=5) (u:=.slice oh x.needs.length nT) rfl
 have z1:=S1'.lt
 go_wp2_with fail
 refine (ahY x.needs _ _ _ _ (mX.ext S1.below) hl2 HV.out).mono ?_
 rintro e w2 ⟨A2,c2,G2,rfl,hO2,hb2⟩
 have S2':=S1.ext hb2
 replace hO2:=hO2.mono (B':=w1.heap.size) avq
 have k2:=S2'.box.cell (i:=5) (u:=.slice oh x.needs.length nT) rfl
 have f2:=S2'.box.fz 5
 have l2:=S2'.box.lt
 have HLT2:=Lib.hid (show ∀b∈G2,b < w2.heap.size from hO2.lt)
 have S2:=S2'.put 5 (.slice A2 x.needs.length c2)
 replace jX:=jX.ext hb2
 replace jX:=jX.setCell (p:=⟨w.heap.size,5,none⟩) au4 (.slice A2 x.needs.length c2)
 replace hO2:=hO2.setCell (p:=⟨w.heap.size,5,none⟩) au4 (.slice A2 x.needs.length c2)
 have m2:=S2.box.cell (i:=6) (u:=.slice fA x.tolerances.length fB) rfl
 have z2:=S2'.lt
 have y2:w1.heap.size≤w2.heap.size:=by have:=hb2.size;(try simp [World.setCell] at this);omega
 go_wp2_with fail
 refine (aap x.tolerances _ _ _ _ (eG.ext S2.below) hl3).mono ?_
 rintro e w3 ⟨A3,c3,G3,rfl,hO3,hb3⟩
 have S3':=S2.ext hb3
 replace hO3:=hO3.mono (B':=w2.heap.size) avq
 have k3:=S3'.box.cell (i:=6) (u:=.slice fA x.tolerances.length fB) rfl
 have f3:=S3'.box.fz 6
 have l3:=S3'.box.lt
 have S3:=S3'.put 6 (.slice A3 x.tolerances.length c3)
 replace jX:=jX.ext hb3
 replace hO2:=hO2.ext hb3
 replace jX:=jX.setCell (p:=⟨w.heap.size,6,none⟩) avr (.slice A3 x.tolerances.length c3)
 replace hO2:=hO2.setCell (p:=⟨w.heap.size,6,none⟩) avr (.slice A3 x.tolerances.length c3)
 replace hO3:=hO3.setCell (p:=⟨w.heap.size,6,none⟩) avr (.slice A3 x.tolerances.length c3)
 have q0:=S3.box.cell (i:=0) (u:=.string x.name) rfl
 have q1:=S3.box.cell (i:=1) (u:=.slice A1 x.labels.length c1) rfl
 have q2:=S3.box.cell (i:=2) (u:=.int .i64 x.cpu) rfl
 have q3:=S3.box.cell (i:=3) (u:=.int .i64 x.mem) rfl
 have q4:=S3.box.cell (i:=4) (u:=.int .i64 x.rank) rfl
 have q5:=S3.box.cell (i:=5) (u:=.slice A2 x.needs.length c2) rfl
 have q6:=S3.box.cell (i:=6) (u:=.slice A3 x.tolerances.length c3) rfl
 have r0:=S3.rb.cell (i:=0) (u:=.string ⟨#[]⟩) rfl
 have r1:=S3.rb.cell (i:=1) (u:=.slice none 0 0) rfl
 have r2:=S3.rb.cell (i:=2) (u:=.int .i64 0) rfl
 have r3:=S3.rb.cell (i:=3) (u:=.int .i64 0) rfl
 have r4:=S3.rb.cell (i:=4) (u:=.int .i64 0) rfl
 have r5:=S3.rb.cell (i:=5) (u:=.slice none 0 0) rfl
 have r6:=S3.rb.cell (i:=6) (u:=.slice none 0 0) rfl
 have rf:=S3.rb.fz
 have rl:=S3.rb.lt
 have z3:=S3'.lt
 have y3:w2.heap.size≤w3.heap.size:=by have:=hb3.size;(try simp [World.setCell] at this);omega
 have HO1:=Lib.hid jX
 have RZ:=Lib.hid hO2
 have HO3:=Lib.hid hO3
 have HS:=Lib.hid S3
 clear jX hO2 hO3 S1 S1' S2 S2' S3 S3' S0
 try dsimp only
 iterate 200 (first | go_step | skip)
 refine bodyPost_ret (v:=.agg #[.string x.name,.slice A1 x.labels.length c1,.int .i64 x.cpu,.int .i64 x.mem,.int .i64 x.rank,.slice A2 x.needs.length c2,.slice A3 x.tolerances.length c3]) (by simp [results,Tryz.results50,go_sem, *]) rfl ⟨[.string x.name,.slice A1 x.labels.length c1,.int .i64 x.cpu,.int .i64 x.mem,.int .i64 x.rank,.slice A2 x.needs.length c2,.slice A3 x.tolerances.length c3],(G1++(G2++G3)),rfl,?_,?_⟩
 rotate_left
 ·exact au5
 refine Own.up (B':=w.heap.size+1+1) (fun x:nI=>(x.name,x.labels,x.cpu,x.mem,x.rank,x.needs,x.tolerances)) ?_ (by omega)
 refine Own.cons (c1:=[.string x.name]) (rdStr _ x.name (rV hname)) ?_
 refine Own.pair (B2:=w1.heap.size) (c1:=[.slice A1 x.labels.length c1]) (F1:=G1) ?_ ?_ (by omega) anS.out
 ·exact av4
 refine Own.cons (c1:=[.int .i64 x.cpu]) (jL _ x.cpu vg) ?_
 refine Own.cons (c1:=[.int .i64 x.mem]) (jL _ x.mem hmem) ?_
 refine Own.cons (c1:=[.int .i64 x.rank]) (jL _ x.rank BJ) ?_
 refine Own.pair (B2:=w2.heap.size) (c1:=[.slice A2 x.needs.length c2]) (F1:=G2) ?_ ?_ (by omega) HLT2.out
 ·exact av5
 exact (by repeat (first | with_reducible exact HO3.out | with_reducible refine Own.setCell ?_ auR _))
set_option maxRecDepth 100000 in
set_option maxHeartbeats 4000000 in
theorem alT (x:Host) (cs:List Value) (F:List Nat) (w:World) (h:rd w x cs F) (hl1:(x.labels.length:Int)≤1048576) (hl2:(x.aT.length:Int)≤1048576) :
 Calls Tryz.prog 38 #[.agg cs.toArray] w fun e w'=>∃cs F,e = .returned (.agg cs.toArray)∧Own w' w.heap.size x cs F∧Below w.heap.size w w':=by
 obtain ⟨gu,gy,jw,kJ,kK,qU,hck,qp,hname,dO,vg,hmem,uI,jq⟩:=iy h
 subst hck
 clear qp h
 go_enter Tryz.func38,Tryz.ntmps38
 have S0:=Cp.new w [.string x.name,.slice gu x.labels.length gy,.int .i64 x.cpu,.int .i64 x.mem,.int .i64 x.slots,.slice kJ x.aT.length kK] [.string ⟨#[]⟩,.slice none 0 0,.int .i64 0,.int .i64 0,.int .i64 0,.slice none 0 0] 81 81
 have HM1:=Lib.hid (OU ((w.alloc (.cells ([.string x.name,.slice gu x.labels.length gy,.int .i64 x.cpu,.int .i64 x.mem,.int .i64 x.slots,.slice kJ x.aT.length kK]:List Value).toArray 81)).alloc (.cells ([.string ⟨#[]⟩,.slice none 0 0,.int .i64 0,.int .i64 0,.int .i64 0,.slice none 0 0]:List Value).toArray 81)) 126 2 (w.heap.size+1+1) aua)
 go_wp2_with (
 first
  | (at_builtin
     refine rW (o:=⟨some 6,_,_,_,_,_⟩) afn (by rfl) (by rfl) _ _ (by rfl) _ (w.heap.size+1+1) _ 0 [] HM1.out (by rfl) x.labels gu gy _ (dO.ext (ak S0.below _)) (by rfl) (by omega) (by omega) aua ?_
     intro v1 w1 ds1 E1 ajt aiI hown1 hg1 hat1
     go_must (obtain ⟨A1,c1,hv1⟩:=mY hown1)
     go_must (subst hv1)
     go_must (simp only [Nat.zero_add,List.nil_append] at hown1)
     go_must (have hb1:Below (w.heap.size+1+1) ((w.alloc (.cells ([.string x.name,.slice gu x.labels.length gy,.int .i64 x.cpu,.int .i64 x.mem,.int .i64 x.slots,.slice kJ x.aT.length kK]:List Value).toArray 81)).alloc (.cells ([.string ⟨#[]⟩,.slice none 0 0,.int .i64 0,.int .i64 0,.int .i64 0,.slice none 0 0]:List Value).toArray 81)) w1:=lS HM1.out hg1 ((Below.refl _ _).alloc aua _) aua)
     go_must (have S1':=Cp.ext S0 (hb1.mono aua))
     go_must (have hrd1:jo w1 x.labels ds1 E1:=ajt.frame (fun b hb=>hg1.block b (ajt.lt b hb) (fun e=>by have h1:=dO.lt b (aiI b hb);have h2:=S0.below.size;simp [Value.ownBlock,World.setCell] at e h2;omega)) hg1.size)
     go_must (obtain ⟨A0,c0,G1,hv0,jX⟩:=Own.of_flat acO hown1 hrd1)
     go_must (simp only [Value.slice.injEq,true_and] at hv0)
     go_must (obtain ⟨rfl,rfl⟩:=hv0)
     go_must (have k1:=S1'.box.cell (i:=1) (u:=.slice gu x.labels.length gy) rfl)
     go_must (have f1:=S1'.box.fz 1)
     go_must (have l1:=S1'.box.lt)
     go_must (have anS:=Lib.hid (show ∀b∈G1,b < w1.heap.size from jX.lt))
     go_must (have S1:=S1'.put 1 (.slice A1 x.labels.length c1))
     go_must (replace jX:=jX.setCell (p:=⟨w.heap.size,1,none⟩) av3 (.slice A1 x.labels.length c1))
     go_must (have m1:=S1.box.cell (i:=5) (u:=.slice kJ x.aT.length kK) rfl)
     go_must (have z1:=S1'.lt)
     go_must (have HM2:=Lib.hid (OU (w1.setCell ⟨w.heap.size,1,none⟩ (.slice A1 x.labels.length c1)) 129 3 (w1.heap.size) aua)))
  | (at_builtin
     refine rW (o:=⟨some 11,_,_,_,_,_⟩) alP (by rfl) (by rfl) _ _ (by rfl) _ (w1.heap.size) _ 0 [] HM2.out (by rfl) x.aT kJ kK _ (jq.ext (ak S1.below _)) (by rfl) (by omega) (by omega) aua ?_
     intro v2 w2 ds2 E2 hrc2 hsub2 hown2 hg2 anT
     go_must (obtain ⟨A2,c2,hv2⟩:=mY hown2)
     go_must (subst hv2)
     go_must (simp only [Nat.zero_add,List.nil_append] at hown2)
     go_must (have hb2:Below (w1.heap.size) (w1.setCell ⟨w.heap.size,1,none⟩ (.slice A1 x.labels.length c1)) w2:=lS HM2.out hg2 ((Below.refl _ _).alloc aua _) aua)
     go_must (have S2':=Cp.ext S1 (hb2.mono aua))
     go_must (have hrd2:jo w2 x.aT ds2 E2:=hrc2.frame (fun b hb=>hg2.block b (hrc2.lt b hb) (fun e=>by have h1:=jq.lt b (hsub2 b hb);have h2:=S1.below.size;simp [Value.ownBlock,World.setCell] at e h2;omega)) hg2.size)
     go_must (obtain ⟨A0,c0,G2,hv0,hO2⟩:=Own.of_flat aiH hown2 hrd2)
     go_must (simp only [Value.slice.injEq,true_and] at hv0)
     go_must (obtain ⟨rfl,rfl⟩:=hv0)
     go_must (have k2:=S2'.box.cell (i:=5) (u:=.slice kJ x.aT.length kK) rfl)
     go_must (have f2:=S2'.box.fz 5)
     go_must (have l2:=S2'.box.lt)
     go_must (have S2:=S2'.put 5 (.slice A2 x.aT.length c2))
     go_must (replace jX:=jX.ext (hb2.mono aua))
     go_must (replace jX:=jX.setCell (p:=⟨w.heap.size,5,none⟩) au4 (.slice A2 x.aT.length c2))
     go_must (replace hO2:=hO2.setCell (p:=⟨w.heap.size,5,none⟩) au4 (.slice A2 x.aT.length c2))
     go_must (have q0:=S2.box.cell (i:=0) (u:=.string x.name) rfl)
     go_must (have q1:=S2.box.cell (i:=1) (u:=.slice A1 x.labels.length c1) rfl)
     go_must (have q2:=S2.box.cell (i:=2) (u:=.int .i64 x.cpu) rfl)
     go_must (have q3:=S2.box.cell (i:=3) (u:=.int .i64 x.mem) rfl)
     go_must (have q4:=S2.box.cell (i:=4) (u:=.int .i64 x.slots) rfl)
     go_must (have q5:=S2.box.cell (i:=5) (u:=.slice A2 x.aT.length c2) rfl)
     go_must (have r0:=S2.rb.cell (i:=0) (u:=.string ⟨#[]⟩) rfl)
     go_must (have r1:=S2.rb.cell (i:=1) (u:=.slice none 0 0) rfl)
     go_must (have r2:=S2.rb.cell (i:=2) (u:=.int .i64 0) rfl)
     go_must (have r3:=S2.rb.cell (i:=3) (u:=.int .i64 0) rfl)
     go_must (have r4:=S2.rb.cell (i:=4) (u:=.int .i64 0) rfl)
     go_must (have r5:=S2.rb.cell (i:=5) (u:=.slice none 0 0) rfl)
     go_must (have rf:=S2.rb.fz)
     go_must (have rl:=S2.rb.lt)
     go_must (have z2:=S2'.lt)
     go_must (have y2:w1.heap.size≤w2.heap.size:=by have:=hb2.size;(try simp [World.setCell] at this);omega)))
 have HO1:=Lib.hid jX
 have RZ:=Lib.hid hO2
 have HS:=Lib.hid S2
 clear jX hO2 S1 S1' S2 S2' S0
 try dsimp only
 iterate 200 (first | go_step | skip)
 refine bodyPost_ret (v:=.agg #[.string x.name,.slice A1 x.labels.length c1,.int .i64 x.cpu,.int .i64 x.mem,.int .i64 x.slots,.slice A2 x.aT.length c2]) (by simp [results,Tryz.results38,go_sem, *]) rfl ⟨[.string x.name,.slice A1 x.labels.length c1,.int .i64 x.cpu,.int .i64 x.mem,.int .i64 x.slots,.slice A2 x.aT.length c2],(G1++G2),rfl,?_,?_⟩
 rotate_left
 ·exact au5
 refine Own.up (B':=w.heap.size+1+1) (fun x:Host=>(x.name,x.labels,x.cpu,x.mem,x.slots,x.aT)) ?_ (by omega)
 refine Own.cons (c1:=[.string x.name]) (rdStr _ x.name (rV hname)) ?_
 refine Own.pair (B2:=w1.heap.size) (c1:=[.slice A1 x.labels.length c1]) (F1:=G1) ?_ ?_ (by omega) anS.out
 ·exact av4
 refine Own.cons (c1:=[.int .i64 x.cpu]) (jL _ x.cpu vg) ?_
 refine Own.cons (c1:=[.int .i64 x.mem]) (jL _ x.mem hmem) ?_
 refine Own.cons (c1:=[.int .i64 x.slots]) (jL _ x.slots uI) ?_
 exact av5
set_option maxRecDepth 100000 in
set_option maxHeartbeats 4000000 in
theorem anU (x:nI) (cs:List Value) (F:List Nat) (w:World) (h:rd w x cs F) (hl1:(x.labels.length:Int)≤1048576) (hl2:(x.needs.length:Int)≤1048576) (hl3:(x.tolerances.length:Int)≤1048576) (hv:∀y∈x.needs,(y.values.length:Int)≤1048576) :
 Calls Tryz.prog 39 #[.agg cs.toArray] w fun e w'=>∃cs F,e = .returned (.agg cs.toArray)∧Own w' w.heap.size x cs F∧Below w.heap.size w w':=by
 have HV:=Lib.hid hv
 clear hv
 obtain ⟨gu,gy,jw,oh,nT,wG,fA,fB,jY,hck,qp,hname,dO,vg,hmem,BJ,mX,eG⟩:=dL h
 subst hck
 clear qp h
 go_enter Tryz.func39,Tryz.ntmps39
 have S0:=Cp.new w [.string x.name,.slice gu x.labels.length gy,.int .i64 x.cpu,.int .i64 x.mem,.int .i64 x.rank,.slice oh x.needs.length nT,.slice fA x.tolerances.length fB] [.string ⟨#[]⟩,.slice none 0 0,.int .i64 0,.int .i64 0,.int .i64 0,.slice none 0 0,.slice none 0 0] 52 52
 have HM1:=Lib.hid (OU ((w.alloc (.cells ([.string x.name,.slice gu x.labels.length gy,.int .i64 x.cpu,.int .i64 x.mem,.int .i64 x.rank,.slice oh x.needs.length nT,.slice fA x.tolerances.length fB]:List Value).toArray 52)).alloc (.cells ([.string ⟨#[]⟩,.slice none 0 0,.int .i64 0,.int .i64 0,.int .i64 0,.slice none 0 0,.slice none 0 0]:List Value).toArray 52)) 126 2 (w.heap.size+1+1) aua)
 go_wp2_with (
  at_builtin
  refine rW (o:=⟨some 6,_,_,_,_,_⟩) afn (by rfl) (by rfl) _ _ (by rfl) _ (w.heap.size+1+1) _ 0 [] HM1.out (by rfl) x.labels gu gy _ (dO.ext (ak S0.below _)) (by rfl) (by omega) (by omega) aua ?_
  intro v1 w1 ds1 E1 ajt aiI hown1 hg1 hat1
  go_must (obtain ⟨A1,c1,hv1⟩:=mY hown1)
  go_must (subst hv1)
  go_must (simp only [Nat.zero_add,List.nil_append] at hown1)
  go_must (have hb1:Below (w.heap.size+1+1) ((w.alloc (.cells ([.string x.name,.slice gu x.labels.length gy,.int .i64 x.cpu,.int .i64 x.mem,.int .i64 x.rank,.slice oh x.needs.length nT,.slice fA x.tolerances.length fB]:List Value).toArray 52)).alloc (.cells ([.string ⟨#[]⟩,.slice none 0 0,.int .i64 0,.int .i64 0,.int .i64 0,.slice none 0 0,.slice none 0 0]:List Value).toArray 52)) w1:=lS HM1.out hg1 ((Below.refl _ _).alloc aua _) aua)
  go_must (have S1':=Cp.ext S0 (hb1.mono aua))
  go_must (have hrd1:jo w1 x.labels ds1 E1:=ajt.frame (fun b hb=>hg1.block b (ajt.lt b hb) (fun e=>by have h1:=dO.lt b (aiI b hb);have h2:=S0.below.size;simp [Value.ownBlock,World.setCell] at e h2;omega)) hg1.size)
  go_must (obtain ⟨A0,c0,G1,hv0,jX⟩:=Own.of_flat acO hown1 hrd1)
  go_must (simp only [Value.slice.injEq,true_and] at hv0)
  go_must (obtain ⟨rfl,rfl⟩:=hv0)
  go_must (have k1:=S1'.box.cell (i:=1) (u:=.slice gu x.labels.length gy) rfl)
  go_must (have f1:=S1'.box.fz 1)
  go_must (have l1:=S1'.box.lt)
  go_must (have anS:=Lib.hid (show ∀b∈G1,b < w1.heap.size from jX.lt))
  go_must (have S1:=S1'.put 1 (.slice A1 x.labels.length c1))
  go_must (replace jX:=jX.setCell (p:=⟨w.heap.size,1,none⟩) av3 (.slice A1 x.labels.length c1))
  go_must (have m1:=S1.box.cell (i:=5) (u:=.slice oh x.needs.length nT) rfl)
  go_must (have z1:=S1'.lt))
 go_wp2_with fail
 refine (alR x.needs _ _ _ _ (mX.ext S1.below) hl2 HV.out).mono ?_
 rintro e w2 ⟨A2,c2,G2,rfl,hO2,hb2⟩
 have S2':=S1.ext hb2
 replace hO2:=hO2.mono (B':=w1.heap.size) avq
 have k2:=S2'.box.cell (i:=5) (u:=.slice oh x.needs.length nT) rfl
 have f2:=S2'.box.fz 5
 have l2:=S2'.box.lt
 have HLT2:=Lib.hid (show ∀b∈G2,b < w2.heap.size from hO2.lt)
 have S2:=S2'.put 5 (.slice A2 x.needs.length c2)
 replace jX:=jX.ext hb2
 replace jX:=jX.setCell (p:=⟨w.heap.size,5,none⟩) au4 (.slice A2 x.needs.length c2)
 replace hO2:=hO2.setCell (p:=⟨w.heap.size,5,none⟩) au4 (.slice A2 x.needs.length c2)
 have m2:=S2.box.cell (i:=6) (u:=.slice fA x.tolerances.length fB) rfl
 have z2:=S2'.lt
 have y2:w1.heap.size≤w2.heap.size:=by have:=hb2.size;(try simp [World.setCell] at this);omega
 have HM3:=Lib.hid (OU (w2.setCell ⟨w.heap.size,5,none⟩ (.slice A2 x.needs.length c2)) 132 4 (w2.heap.size) aua)
 go_wp2_with (
  at_builtin
  refine rW (o:=⟨some 15,_,_,_,_,_⟩) abo (by rfl) (by rfl) _ _ (by rfl) _ (w2.heap.size) _ 0 [] HM3.out (by rfl) x.tolerances fA fB _ (eG.ext (ak S2.below _)) (by rfl) (by omega) (by omega) aua ?_
  intro v3 w3 ds3 E3 hrc3 NW hown3 hg3 hat3
  go_must (obtain ⟨A3,c3,hv3⟩:=mY hown3)
  go_must (subst hv3)
  go_must (simp only [Nat.zero_add,List.nil_append] at hown3)
  go_must (have hb3:Below (w2.heap.size) (w2.setCell ⟨w.heap.size,5,none⟩ (.slice A2 x.needs.length c2)) w3:=lS HM3.out hg3 ((Below.refl _ _).alloc aua _) aua)
  go_must (have S3':=Cp.ext S2 (hb3.mono aua))
  go_must (have hrd3:jo w3 x.tolerances ds3 E3:=hrc3.frame (fun b hb=>hg3.block b (hrc3.lt b hb) (fun e=>by have h1:=eG.lt b (NW b hb);have h2:=S2.below.size;simp [Value.ownBlock,World.setCell] at e h2;omega)) hg3.size)
  go_must (obtain ⟨A0,c0,G3,hv0,hO3⟩:=Own.of_flat Zk hown3 hrd3)
  go_must (simp only [Value.slice.injEq,true_and] at hv0)
  go_must (obtain ⟨rfl,rfl⟩:=hv0)
  go_must (have k3:=S3'.box.cell (i:=6) (u:=.slice fA x.tolerances.length fB) rfl)
  go_must (have f3:=S3'.box.fz 6)
  go_must (have l3:=S3'.box.lt)
  go_must (have S3:=S3'.put 6 (.slice A3 x.tolerances.length c3))
  go_must (replace jX:=jX.ext (hb3.mono aua))
  go_must (replace hO2:=hO2.ext (hb3.mono aua))
  go_must (replace jX:=jX.setCell (p:=⟨w.heap.size,6,none⟩) avr (.slice A3 x.tolerances.length c3))
  go_must (replace hO2:=hO2.setCell (p:=⟨w.heap.size,6,none⟩) avr (.slice A3 x.tolerances.length c3))
  go_must (replace hO3:=hO3.setCell (p:=⟨w.heap.size,6,none⟩) avr (.slice A3 x.tolerances.length c3))
  go_must (have q0:=S3.box.cell (i:=0) (u:=.string x.name) rfl)
  go_must (have q1:=S3.box.cell (i:=1) (u:=.slice A1 x.labels.length c1) rfl)
  go_must (have q2:=S3.box.cell (i:=2) (u:=.int .i64 x.cpu) rfl)
  go_must (have q3:=S3.box.cell (i:=3) (u:=.int .i64 x.mem) rfl)
  go_must (have q4:=S3.box.cell (i:=4) (u:=.int .i64 x.rank) rfl)
  go_must (have q5:=S3.box.cell (i:=5) (u:=.slice A2 x.needs.length c2) rfl)
  go_must (have q6:=S3.box.cell (i:=6) (u:=.slice A3 x.tolerances.length c3) rfl)
  go_must (have r0:=S3.rb.cell (i:=0) (u:=.string ⟨#[]⟩) rfl)
  go_must (have r1:=S3.rb.cell (i:=1) (u:=.slice none 0 0) rfl)
  go_must (have r2:=S3.rb.cell (i:=2) (u:=.int .i64 0) rfl)
  go_must (have r3:=S3.rb.cell (i:=3) (u:=.int .i64 0) rfl)
  go_must (have r4:=S3.rb.cell (i:=4) (u:=.int .i64 0) rfl)
  go_must (have r5:=S3.rb.cell (i:=5) (u:=.slice none 0 0) rfl)
  go_must (have r6:=S3.rb.cell (i:=6) (u:=.slice none 0 0) rfl)
  go_must (have rf:=S3.rb.fz)
  go_must (have rl:=S3.rb.lt)
  go_must (have z3:=S3'.lt)
  go_must (have y3:w2.heap.size≤w3.heap.size:=by have:=hb3.size;(try simp [World.setCell] at this);omega))
 have HO1:=Lib.hid jX
 have RZ:=Lib.hid hO2
 have HO3:=Lib.hid hO3
 have HS:=Lib.hid S3
 clear jX hO2 hO3 S1 S1' S2 S2' S3 S3' S0
 try dsimp only
 iterate 200 (first | go_step | skip)
 refine bodyPost_ret (v:=.agg #[.string x.name,.slice A1 x.labels.length c1,.int .i64 x.cpu,.int .i64 x.mem,.int .i64 x.rank,.slice A2 x.needs.length c2,.slice A3 x.tolerances.length c3]) (by simp [results,Tryz.results39,go_sem, *]) rfl ⟨[.string x.name,.slice A1 x.labels.length c1,.int .i64 x.cpu,.int .i64 x.mem,.int .i64 x.rank,.slice A2 x.needs.length c2,.slice A3 x.tolerances.length c3],(G1++(G2++G3)),rfl,?_,?_⟩
 rotate_left
 ·exact au5
 refine Own.up (B':=w.heap.size+1+1) (fun x:nI=>(x.name,x.labels,x.cpu,x.mem,x.rank,x.needs,x.tolerances)) ?_ (by omega)
 refine Own.cons (c1:=[.string x.name]) (rdStr _ x.name (rV hname)) ?_
 refine Own.pair (B2:=w1.heap.size) (c1:=[.slice A1 x.labels.length c1]) (F1:=G1) ?_ ?_ (by omega) anS.out
 ·exact av4
 refine Own.cons (c1:=[.int .i64 x.cpu]) (jL _ x.cpu vg) ?_
 refine Own.cons (c1:=[.int .i64 x.mem]) (jL _ x.mem hmem) ?_
 refine Own.cons (c1:=[.int .i64 x.rank]) (jL _ x.rank BJ) ?_
 refine Own.pair (B2:=w2.heap.size) (c1:=[.slice A2 x.needs.length c2]) (F1:=G2) ?_ ?_ (by omega) HLT2.out
 ·exact av5
 exact (by repeat (first | with_reducible exact HO3.out | with_reducible refine Own.setCell ?_ auR _))
end Go.Proofs.YtnjibbpcafgglaaGreat
namespace Go.Proofs.YtnjibbpcafgglaaGreat
open Go.RowKit
set_option linter.unusedVariables false
section
variable {P:Program} {ops:Array Oper} {md:Region.Mode} {C:World→Prop} {Q:Exit→Act→World→Prop}
def Lr (P:Program) (ops:Array Oper) (C:World→Prop) (Q:Exit→Act→World→Prop) (E:Act→World→Prop):List Oper→Act→World→Prop
 | [],a,w=>E a w
 | o :: rest,a,w=>if Region.wanted o (yielded ops a.tmps) then o.wp P a w (fun a' w'=>C w'∧Lr P ops C Q E rest a' w') Q else C w∧Lr P ops C Q E rest (a.put o.dst undef) w
theorem yG {E:Act→World→Prop} {a:Act} {w:World} (h:E a w):Lr P ops C Q E [] a w:=h
theorem iK {E:Act→World→Prop} {a:Act} {w:World} {o:Oper} {rest:List Oper} (hw:Region.wanted o (yielded ops a.tmps) = true)
 (h:∀K:Act→World→Prop,(∀a' w',C w'→Lr P ops C Q E rest a' w'→K a' w')→o.wp P a w K Q):Lr P ops C Q E (o :: rest) a w:=by
 unfold Lr
 rw [if_pos hw]
 exact h _ fun a' w' h1 h2=>⟨h1,h2⟩
def V6 (P:Program) (md:Region.Mode) (ops:Array Oper) (Q:Exit→Act→World→Prop) (C:World→Prop) (E:Array Bool→Act→World→Prop):Nat→Array Bool→Act→World→Prop
 | 0,listed,a,w=>E listed a w
 | n+1,listed,a,w=>Region.ready md ops listed≠[]∧∀i∈Region.ready md ops listed,wpOp P ops Q i (fun a' w'=>C w'∧V6 P md ops Q C E n (listed.setIfInBounds i true) a' w') a w
theorem aho {m:Nat} {E:Array Bool→Act→World→Prop} (hE:∀l a w,E l a w→wpAny P md ops Q m l a w):∀(n:Nat) (listed:Array Bool) (a:Act) (w:World),V6 P md ops Q C E n listed a w→wpAny P md ops Q (m+n) listed a w
 | 0,_,_,_,h=>hE _ _ _ h
 | n+1,listed,a,w,h=>⟨fun h0=>absurd h0 h.1,fun i hi=>wpOp_mono (fun a' w' h'=>aho hE n _ a' w' h'.2) (h.2 i hi)⟩
theorem Ym:∀(l:List Oper) (ks:List Nat) (listed:Array Bool) (a:Act) (w:World),l.toArray = ops→VI md ops ks listed = true→wpList P ops Q (pick l ks) a w→wpAny P md ops Q ks.length listed a w
 | l,[],listed,a,w,hl,hB,h=>by
   simp only [VI,List.isEmpty_iff] at hB
   exact ⟨hB,h⟩
 | l,k :: ks,listed,a,w,hl,hB,h=>by
   simp only [VI,Bool.and_eq_true,decide_eq_true_eq] at hB
   obtain ⟨_,o,ho,_⟩:=mem_ready.1 (show k∈Region.ready md ops listed by rw [hB.1];simp)
   have hlo:l[k]? = some o:=by rw [← hl] at ho;simpa using ho
   simp only [pick,hlo] at h
   refine ⟨fun h0=>absurd h0 (by rw [hB.1];simp),fun i hi=>?_⟩
   obtain rfl:i = k:=by rw [hB.1] at hi;simpa using hi
   unfold wpOp
   simp only [ho]
   unfold wpList at h
   split
   ·rename_i hw
    rw [if_pos hw] at h
    rcases h with h | h
    ·exact .inl (Oper.wp_mono (fun a' w' h'=>Ym l ks _ a' w' hl hB.2 h') h)
    ·exact .inr h
   ·rename_i hw
    rw [if_neg hw] at h
    exact Ym l ks _ _ _ hl hB.2 h
theorem alc {E:Array Bool→Act→World→Prop} {i:Nat} {oi:Oper} {v:Value} (hi:ops[i]? = some oi) (hsel:∀(j:Nat) (o:Oper) cs b,ops[j]? = some o→o.op≠.select cs b)
 (hQ:∀c a w,Q (.panic c) (a.put oi.dst v) w→Q (.panic c) a w)
 (hg:∀l a w,E l a w→∀j∈Region.ready md ops l,∃oj,ops[j]? = some oj∧∃e∈oj.after,Region.binds md e = true∧e.on = i) :
 ∀(n:Nat) (listed:Array Bool) (a:Act) (w:World),
  (∀j oj,ops[j]? = some oj→j≠i→listed.getD j true = false→(∀e∈oj.after,Region.binds md e = true→e.on≠i)→oi.apart ops oj = true) →
  i∈Region.ready md ops listed→YieldsIf P ops C oi v a→C w →
  V6 P md ops Q C E n (listed.setIfInBounds i true) (a.put oi.dst v) w→V6 P md ops Q C E (n+1) listed a w:=by
 intro n
 have waits:∀{listed:Array Bool} {j:Nat} {oj:Oper},i∈Region.ready md ops listed→j∈Region.ready md ops listed→ops[j]? = some oj→∀e∈oj.after,Region.binds md e = true→e.on≠i:=by
  intro listed j oj hr hj hoj e he hb heq
  obtain ⟨_,ok,hok,hall⟩:=mem_ready.1 hj
  rw [hoj] at hok
  obtain rfl:=Option.some.inj hok
  have h1:=hall e he hb
  have h0:=(mem_ready.1 hr).1
  rw [heq] at h1
  rcases Nat.lt_or_ge i listed.size with h' | h'
  ·simp [h'] at h0 h1;rw [h0] at h1;cases h1
  ·simp [Array.getElem?_eq_none h'] at h1
 induction n with
 | zero =>
   intro listed a w _ hr hy hC H
   refine ⟨fun h=>awy,fun j hj=>?_⟩
   by_cases hji:j = i
   ·subst hji;exact hy.wpOp hi hC ⟨hC,H⟩
   ·obtain ⟨oj,hoj,e,he,hb,heq⟩:=hg _ _ _ H j (ready_mono hj hji)
    exact absurd heq (waits hr hj hoj e he hb)
 | succ n ih =>
   intro listed a w hfree hr hy hC H
   refine ⟨fun h=>awy,fun j hj=>?_⟩
   by_cases hji:j = i
   ·subst hji;exact hy.wpOp hi hC ⟨hC,H⟩
   ·have h1:=H.2 j (ready_mono hj hji)
    obtain ⟨hjun,oj,hoj,hall⟩:=mem_ready.1 hj
    have hnot:=waits hr hj hoj
    have h2:=wpOp_putIf hoj (hfree j oj hoj hji hjun hnot) (fun cs b=>hsel i oi cs b hi) (fun cs b=>hsel j oj cs b hoj) hQ hy h1
    have hfree':∀k ok,ops[k]? = some ok→k≠i→(listed.setIfInBounds j true).getD k true = false →
        (∀e∈ok.after,Region.binds md e = true→e.on≠i)→oi.apart ops ok = true:=fun k ok hk hki hun hno=>by
     refine hfree k ok hk hki ?_ hno
     by_cases hjk:j = k
     ·subst hjk;exact hjun
     ·rw [getD_set_ne true hjk] at hun;exact hun
    refine wpOp_mono (fun a' w' h3=>⟨h3.2.1,ih (listed.setIfInBounds j true) a' w' hfree' (ready_mono hr (Ne.symm hji)) h3.1 h3.2.1 ?_⟩) h2
    rw [Array.setIfInBounds_comm _ _ hji]
    exact h3.2.2
def asx (md:Region.Mode) (ops:Array Oper) (listed:Array Bool) (i:Nat):Bool:=(Region.ready md ops listed).all fun j=>match ops[j]? with | some o=>o.after.any fun e=>Region.binds md e&&e.on == i | none=>false
theorem aoT {listed:Array Bool} {i:Nat} (h:asx md ops listed i = true):∀j∈Region.ready md ops listed,∃oj,ops[j]? = some oj∧∃e∈oj.after,Region.binds md e = true∧e.on = i:=by
 intro j hj
 have h1:=List.all_eq_true.1 h j hj
 obtain ⟨_,oj,hoj,_⟩:=mem_ready.1 hj
 simp only [hoj] at h1
 obtain ⟨k,hk,h2⟩:=Array.any_eq_true.1 h1
 simp only [Bool.and_eq_true,beq_iff_eq] at h2
 exact ⟨oj,hoj,_,Array.getElem_mem hk,h2.1,h2.2⟩
def apE (md:Region.Mode) (ops:Array Oper):List Nat→Array Bool→Bool
 | [],_=>true
 | k :: ks,listed=>decide (Region.ready md ops listed = [k])&&apE md ops ks (listed.setIfInBounds k true)
theorem acj {E:Array Bool→Act→World→Prop} : ∀(l:List Oper) (ks:List Nat) (listed:Array Bool) (a:Act) (w:World),l.toArray = ops→apE md ops ks listed = true→Lr P ops C Q (E (zY ks listed)) (pick l ks) a w→V6 P md ops Q C E ks.length listed a w
 | l,[],listed,a,w,hl,hB,h=>h
 | l,k :: ks,listed,a,w,hl,hB,h=>by
   simp only [apE,Bool.and_eq_true,decide_eq_true_eq] at hB
   obtain ⟨_,o,ho,_⟩:=mem_ready.1 (show k∈Region.ready md ops listed by rw [hB.1];simp)
   have hlo:l[k]? = some o:=by rw [← hl] at ho;simpa using ho
   simp only [pick,hlo] at h
   refine ⟨by rw [hB.1];simp,fun i hi=>?_⟩
   obtain rfl:i = k:=by rw [hB.1] at hi;simpa using hi
   unfold wpOp
   simp only [ho]
   unfold Lr at h
   have next:∀a' w',C w'∧Lr P ops C Q (E (zY (i :: ks) listed)) (pick l ks) a' w'→C w'∧V6 P md ops Q C E ks.length (listed.setIfInBounds i true) a' w':=fun a' w' hh =>
    ⟨hh.1,acj l ks _ a' w' hl hB.2 hh.2⟩
   split
   ·rename_i hw
    rw [if_pos hw] at h
    exact .inl (Oper.wp_mono next h)
   ·rename_i hw
    rw [if_neg hw] at h
    exact next _ _ h
theorem ZX {E:Array Bool→Act→World→Prop} (hs:Region.noSelect ops = true) (hQ:∀c a d v w,Q (.panic c) (Act.put a d v) w→Q (.panic c) a w) {w:World} (hC:C w) (L:Array Bool) (hL:∀l a w,E l a w→l = L):∀(l:List Oper) (js:List Nat) (g:Nat) (listed:Array Bool) (a:Act),l.toArray = ops →
 VH md ops js listed = true→(js.all fun i=>asx md ops L i) = true→OQ P ops C (fun a'=>V6 P md ops Q C E g (zY js listed) a' w) (pick l js) a→V6 P md ops Q C E (g+js.length) listed a w
 | l,[],g,listed,a,hl,hB,hG,h=>h
 | l,k :: js,g,listed,a,hl,hB,hG,h=>by
   simp only [VH,Bool.and_eq_true] at hB
   simp only [List.all_cons,Bool.and_eq_true] at hG
   have hr:k∈Region.ready md ops listed:=by simpa using hB.1.2
   obtain ⟨_,o,ho,_⟩:=mem_ready.1 hr
   have hlo:l[k]? = some o:=by rw [← hl] at ho;simpa using ho
   simp only [pick,hlo] at h
   obtain ⟨v,hy,hn⟩:=h
   refine alc ho (Region.noSelect_spec hs) (fun c a' w'=>hQ c a' _ v w') (fun l a w he=>by rw [hL l a w he];exact aoT hG.1) (g+js.length) listed a w (Region.free_spec ho hB.1.1) hr hy hC ?_
   exact ZX hs hQ hC L hL l js g _ _ hl hB.2 hG.2 hn
def cutB (ops:Array Oper) (js ks ts:List Nat):Bool :=
 Region.noSelect ops&&decide (ts.length+(ks.length+js.length) = ops.size)&&VH .any ops js (Array.replicate ops.size false)&&apE .any ops ks (zY js (Array.replicate ops.size false))&&VI .any ops ts (zY ks (zY js (Array.replicate ops.size false)))&&js.all (fun i=>asx .any ops (zY ks (zY js (Array.replicate ops.size false))) i)
theorem uq {id:Nat} {a:Act} {w:World} {l:List Oper} (C:World→Prop) (js ks ts:List Nat) (hm:P.follows .mixedOrders = true) (hB:cutB l.toArray js ks ts = true) (hQ:∀c a d v w,Q (.panic c) (Act.put a d v) w→Q (.panic c) a w)
 (hC:C w.drew) (h:OQ P l.toArray C (fun a'=>Lr P l.toArray C Q (wpList P l.toArray Q (pick l ts)) (pick l ks) a' w.drew) (pick l js) a):(Code.region id l.toArray true).wp P Q a w:=by
 simp only [cutB,Bool.and_eq_true] at hB
 obtain ⟨⟨⟨⟨⟨hs,hn⟩,hh⟩,hk⟩,ht⟩,hg⟩:=hB
 rw [decide_eq_true_eq] at hn
 let L:=zY ks (zY js (Array.replicate l.toArray.size false))
 let E:Array Bool→Act→World→Prop:=fun m b w'=>m = L∧wpList P l.toArray Q (pick l ts) b w'
 have mono:∀(m:List Oper) (b:Act),OQ P l.toArray C (fun a'=>Lr P l.toArray C Q (wpList P l.toArray Q (pick l ts)) (pick l ks) a' w.drew) m b →
     OQ P l.toArray C (fun a'=>V6 P .any l.toArray Q C E ks.length (zY js (Array.replicate l.toArray.size false)) a' w.drew) m b:=by
  intro m
  induction m with
  | nil =>
    intro b hb
    refine acj (md:=.any) l ks _ b w.drew rfl hk ?_
    have e:E (zY ks (zY js (Array.replicate l.toArray.size false))) = wpList P l.toArray Q (pick l ts):=by
     funext b w'
     exact propext ⟨fun h=>h.2,fun h=>⟨rfl,h⟩⟩
    rw [e]
    exact hb
  | cons o m ih =>
    intro b ⟨v,hy,hb⟩
    exact ⟨v,hy,ih _ hb⟩
 have h1:=ZX (md:=.any) (P:=P) (C:=C) (E:=E) hs hQ hC L (fun l a w he=>he.1) l js ks.length (Array.replicate l.toArray.size false) a rfl hh hg (mono _ _ h)
 have h2:=aho (md:=.any) (P:=P) (C:=C) (E:=E) (m:=ts.length) (fun m b w' he=>by
  obtain ⟨rfl,hl⟩:=he
  exact Ym (md:=.any) l ts _ b w' rfl ht hl) _ _ _ _ h1
 rw [hn] at h2
 exact wp_region_any hm h2
end
end Go.Proofs.YtnjibbpcafgglaaGreat
namespace Go.Proofs.YtnjibbpcafgglaaGreat
open Go.ChangeShapes Go.WideShapes Go.ChangeAt Go.RowKit
set_option linter.unusedVariables false
set_option linter.unusedSimpArgs false
structure Cc (w wk:World) (cs zs os:List Value):Prop where
 box:oG wk w.heap.size cs
 rb:oG wk (w.heap.size+1) zs
 ob:oG wk (w.heap.size+1+1) os
 below:Below w.heap.size w wk
section
variable {w wk w':World} {cs zs os:List Value}
theorem Cc.new (w:World) (cs zs os:List Value) (t:TypeId):Cc w (((w.alloc (.cells cs.toArray t)).alloc (.cells zs.toArray t)).alloc (.cells os.toArray t)) cs zs os :=
 have h:=(Cp.new w cs zs t t).ext (ak (aj _) (.cells os.toArray t))
 ⟨h.box,h.rb,(by have:=oG.new ((w.alloc (.cells cs.toArray t)).alloc (.cells zs.toArray t)) os t;rw [World.size_alloc,World.size_alloc] at this;exact this),h.below⟩
theorem Cc.ext (h:Cc w wk cs zs os) (hb:Below wk.heap.size wk w'):Cc w w' cs zs os:=⟨h.box.ext hb,h.rb.ext hb,h.ob.ext hb,ah h.below hb⟩
theorem Cc.put (h:Cc w wk cs zs os) (i:Nat) (u:Value):Cc w (wk.setCell ⟨w.heap.size+1+1,i,none⟩ u) cs zs (os.set i u):=⟨h.box.far (by omega) i u,h.rb.far (by omega) i u,h.ob.put i u,aC h.below atX u⟩
theorem Cc.far (h:Cc w wk cs zs os) {c:Nat} (hc:w.heap.size+1+1 < c) (i:Nat) (u:Value):Cc w (wk.setCell ⟨c,i,none⟩ u) cs zs os:=⟨h.box.far (by omega) i u,h.rb.far (by omega) i u,h.ob.far (by omega) i u,aC h.below atX u⟩
theorem Cc.lt (h:Cc w wk cs zs os):w.heap.size+1+1 < wk.heap.size:=h.ob.lt
theorem Cc.grown {row:Option Nat} (h:Cc w wk cs zs os) (hg:wk.grownBy w' row) (hr:∀q,row = some q→w.heap.size+1+1 < q):Cc w w' cs zs os :=
 ⟨h.box.keep (hg.block _ h.box.lt auq),h.rb.keep (hg.block _ h.rb.lt auq),h.ob.keep (hg.block _ h.ob.lt auq),
  ⟨hg.os.trans h.below.os,hg.tape.trans h.below.tape,hg.output.trans h.below.output,Nat.le_trans h.below.size hg.size,fun i hi=>(hg.block i avs auq).trans (h.below.block i hi)⟩⟩
end
theorem oG.grown {w w':World} {g:Nat} {cs:List Value} {row:Option Nat} (h:oG w g cs) (hg:w.grownBy w' row) (hr:∀q,row = some q→q≠g):oG w' g cs:=h.keep (hg.block _ h.lt (fun e=>hr g e.symm rfl))
theorem Own.aju {α:Type} [Dat α] {w w':World} {B B2:Nat} {x:α} {cs:List Value} {F:List Nat} {row:Option Nat} (h:Own w B x cs F) (hg:w.grownBy w' row) (hF:∀y∈F,y < B2) (hr:∀q,row = some q→B2≤q):Own w' B x cs F :=
 h.keep (fun y hy=>hg.block y (h.lt y hy) awM) hg.size
theorem Own.apg {w:World} {B:Nat} {p:nI} {nm:ByteArray} {n:Int} {ps:List Value} {G:List Nat} (h:Own w B p ps G) (h1:nm.size≤maxLen) (h2:I64 n):Own w B (⟨p,nm,n⟩:Placed) (ps++[.string nm,.int .i64 n]) G:=by
 refine Own.up (B':=B) (fun x:Placed=>(x.aS,x.on,x.seq)) ?_ (Nat.le_refl _)
 have h3:Own w (B+w.heap.size) (nm,n) ([.string nm]++[.int .i64 n]) []:=Own.cons (rdStr w nm (rV h1)) (Own.flat (jL w n h2))
 have h4:=Own.pair h h3 (by omega) (fun b hb=>by have:=h.lt b hb;omega)
 simpa using h4
theorem Own.alU {w:World} {B B3 B4:Nat} {H:List Host} {P:List Placed} {n p q f:Int} {Ah Ap:Option Addr} {ch cp:Nat} {Gh Gp:List Nat} (h:Own w B3 H [.slice Ah H.length ch] Gh) (k:Own w B4 P [.slice Ap P.length cp] Gp) (hB:B≤B3) (hB4:B3≤B4) (hG:∀y∈Gh,y < B4) (hn:I64 n) (hp:I64 p) (hq:I64 q) (hf:I64 f) :
 Own w B (⟨H,P,n,⟨p,q,f⟩⟩:aU) [.slice Ah H.length ch,.slice Ap P.length cp,.int .i64 n,.int .i64 p,.int .i64 q,.int .i64 f] (Gh++Gp):=by
 refine Own.up (B':=B3) (fun x:aU=>(x.hosts,x.au,x.next,x.weights)) ?_ hB
 have h5:Own w (B4+w.heap.size) (⟨p,q,f⟩:rZ) ([.int .i64 p]++([.int .i64 q]++[.int .i64 f])) []:=by
  refine Own.up (B':=B4+w.heap.size) (fun x:rZ=>(x.pack,x.spread,x.soft)) ?_ (Nat.le_refl _)
  exact Own.cons (jL w p hp) (Own.cons (jL w q hq) (Own.flat (jL w f hf)))
 have h6:=Own.cons (jL w n hn) h5
 have h7:=Own.pair h (Own.pair k h6 (by omega) (fun b hb=>by have:=k.lt b hb;omega)) hB4 hG
 simpa using h7
theorem apR:(Tryz.prog.info? 81).map (fun i=>(i.zero,i.size,i.bytes)) = some (some ((.agg #[.string ⟨#[]⟩,.slice none 0 0,.int .i64 0,.int .i64 0,.int .i64 0,.slice none 0 0])),6,88):=by kernel_rfl
theorem aeZ:DL Tryz.prog 29 81 ((.agg #[.string ⟨#[]⟩,.slice none 0 0,.int .i64 0,.int .i64 0,.int .i64 0,.slice none 0 0])) 6 88:=⟨Tryz.underlying29,apR,rfl,by omega⟩
theorem alV:(Tryz.prog.info? 54).map (fun i=>(i.zero,i.size,i.bytes)) = some (some ((.agg #[.string ⟨#[]⟩,.slice none 0 0,.int .i64 0,.int .i64 0,.int .i64 0,.slice none 0 0,.slice none 0 0,.string ⟨#[]⟩,.int .i64 0])),9,136):=by kernel_rfl
theorem YH:DL Tryz.prog 30 54 ((.agg #[.string ⟨#[]⟩,.slice none 0 0,.int .i64 0,.int .i64 0,.int .i64 0,.slice none 0 0,.slice none 0 0,.string ⟨#[]⟩,.int .i64 0])) 9 136:=⟨Tryz.underlying30,alV,rfl,by omega⟩
theorem adD (x:aU) (hw:(x.wt:Int)≤1048576):(x.hosts.length:Int)≤1048576∧(x.au.length:Int)≤1048576∧Hid (∀h∈x.hosts,(h.labels.length:Int)≤1048576∧(h.aT.length:Int)≤1048576) ∧
 Hid (∀p∈x.au,(p.aS.labels.length:Int)≤1048576∧(p.aS.needs.length:Int)≤1048576∧(p.aS.tolerances.length:Int)≤1048576∧∀y∈p.aS.needs,(y.values.length:Int)≤1048576):=by
 have hwx:x.wt = kL Host.wt x.hosts+kL Placed.wt x.au:=rfl
 have h1:=gJ Host.wt x.hosts
 have h2:=gJ Placed.wt x.au
 refine ⟨by omega,by omega,Lib.hid fun h hh=>?_,Lib.hid fun p hp=>?_⟩
 ·have h3:h.name.size+kL Label.wt h.labels+kL iU.wt h.aT≤kL Host.wt x.hosts:=Bq (f:=Host.wt) hh
  have h4:=gJ Label.wt h.labels
  have h5:=gJ iU.wt h.aT
  constructor <;> omega
 ·have h3:(p.aS.name.size+kL Label.wt p.aS.labels+kL Need.wt p.aS.needs+kL bH.wt p.aS.tolerances)+p.on.size≤kL Placed.wt x.au:=Bq (f:=Placed.wt) hp
  have h4:=gJ Label.wt p.aS.labels
  have h5:=gJ Need.wt p.aS.needs
  have h6:=gJ bH.wt p.aS.tolerances
  refine ⟨by omega,by omega,by omega,fun y hy=>?_⟩
  have h7:y.key.size+kL ByteArray.size y.values≤kL Need.wt p.aS.needs:=Bq (f:=Need.wt) hy
  have h8:=gJ ByteArray.size y.values
  omega
set_option maxRecDepth 100000 in
set_option maxHeartbeats 8000000 in
theorem uo (x:aU) (cs:List Value) (F:List Nat) (w:World) (h:rd w x cs F) (hw:(x.wt:Int)≤1048576) :
 Calls Tryz.prog 23 #[.agg cs.toArray] w fun e w'=>∃cs F,e = .returned (.agg cs.toArray)∧Own w' w.heap.size x cs F∧Below w.heap.size w w':=by
 obtain ⟨hhl,hpl,HH,HP⟩:=adD x hw
 clear hw
 obtain ⟨bG,bD,fQ,dn,bW,jg,hck,qp,bQ,dM,hnext,aV,aP,aW⟩:=aO h
 subst hck
 clear qp h
 have S0:=Cc.new w [.slice bG x.hosts.length bD,.slice dn x.au.length bW,.int .i64 x.next,.int .i64 x.weights.pack,.int .i64 x.weights.spread,.int .i64 x.weights.soft] [.slice none 0 0,.slice none 0 0,.int .i64 0,.int .i64 0,.int .i64 0,.int .i64 0] [.slice none 0 0,.slice none 0 0,.int .i64 x.next,.int .i64 x.weights.pack,.int .i64 x.weights.spread,.int .i64 x.weights.soft] 33
 go_enter Tryz.func23,Tryz.ntmps23
 go_wp2_with fail
 go_loopw [16] (fun i wr=>∃(k:Nat) (ds:List Value) (F':List Nat) (v:Value),k≤x.hosts.length∧i = .int .i64 k∧wr.ownsRow (w.heap.size+1+1+1) 81 6 v k ds∧aY wr (w.heap.size+1+1+1) (x.hosts.take k) ds F'∧(∀g,v.ownBlock = some g→g∉F')∧Cc w wr [.slice bG x.hosts.length bD,.slice dn x.au.length bW,.int .i64 x.next,.int .i64 x.weights.pack,.int .i64 x.weights.spread,.int .i64 x.weights.soft] [.slice none 0 0,.slice none 0 0,.int .i64 0,.int .i64 0,.int .i64 0,.int .i64 0] [v,.slice none 0 0,.int .i64 x.next,.int .i64 x.weights.pack,.int .i64 x.weights.spread,.int .i64 x.weights.soft]∧w.heap.size+1+1+1≤wr.heap.size) (fun i _=>x.hosts.length - (intOf i).toNat)
 case atStart=>exact ⟨0,[],[],.slice none 0 0,Nat.zero_le _,rfl,⟨rfl,.inl ⟨rfl,rfl⟩⟩,aY.nil _ _,(fun g hg=>by simp),S0,by simp [World.setCell]⟩
 case round =>
  obtain ⟨k,ds,F',v,hk,rfl,hown,hO,hne,hS,hBr⟩:=hrel
  by_cases hlt:k < x.hosts.length
  ·obtain ⟨b,o,ck,Fk,rfl,o9,hbs,hr,hsub,hc⟩:=Sl.get (α:=Host) bQ hlt
   have hr0:=hr
   obtain ⟨dU,dV,Ba,kY,kZ,NR,hck,hF1,hname1,jr,IQ,IU,KD,yO⟩:=iy hr
   subst hck
   clear hF1 hr
   have q0:w.cell? ⟨b,o+k * 6,none⟩ = some (.string x.hosts[k].name):=by exact hc 0 _ rfl
   replace q0:=((ay hS.below).1 b _ hbs).trans q0
   have q1:w.cell? ⟨b,o+k * 6+1,none⟩ = some (.slice dU x.hosts[k].labels.length dV):=by rw [Nat.add_assoc];exact hc 1 _ rfl
   replace q1:=((ay hS.below).1 b _ hbs).trans q1
   have q2:w.cell? ⟨b,o+k * 6+2,none⟩ = some (.int .i64 x.hosts[k].cpu):=by rw [Nat.add_assoc];exact hc 2 _ rfl
   replace q2:=((ay hS.below).1 b _ hbs).trans q2
   have q3:w.cell? ⟨b,o+k * 6+3,none⟩ = some (.int .i64 x.hosts[k].mem):=by rw [Nat.add_assoc];exact hc 3 _ rfl
   replace q3:=((ay hS.below).1 b _ hbs).trans q3
   have q4:w.cell? ⟨b,o+k * 6+4,none⟩ = some (.int .i64 x.hosts[k].slots):=by rw [Nat.add_assoc];exact hc 4 _ rfl
   replace q4:=((ay hS.below).1 b _ hbs).trans q4
   have q5:w.cell? ⟨b,o+k * 6+5,none⟩ = some (.slice kY x.hosts[k].aT.length kZ):=by rw [Nat.add_assoc];exact hc 5 _ rfl
   replace q5:=((ay hS.below).1 b _ hbs).trans q5
   clear hc
   obtain ⟨hll,htl⟩:=HH.out x.hosts[k] (List.getElem_mem hlt)
   obtain ⟨Av,cv,hv2⟩:=mY hown
   subst hv2
   have SD:=(hS.ext (ak (aj _) (.cells ([.string x.hosts[k].name,.slice dU x.hosts[k].labels.length dV,.int .i64 x.hosts[k].cpu,.int .i64 x.hosts[k].mem,.int .i64 x.hosts[k].slots,.slice kY x.hosts[k].aT.length kZ]:List Value).toArray 81))).ext (aA (aj (wr.alloc (.cells ([.string x.hosts[k].name,.slice dU x.hosts[k].labels.length dV,.int .i64 x.hosts[k].cpu,.int .i64 x.hosts[k].mem,.int .i64 x.hosts[k].slots,.slice kY x.hosts[k].aT.length kZ]:List Value).toArray 81))))
   have HBX:oG (wr.alloc (.cells ([.string x.hosts[k].name,.slice dU x.hosts[k].labels.length dV,.int .i64 x.hosts[k].cpu,.int .i64 x.hosts[k].mem,.int .i64 x.hosts[k].slots,.slice kY x.hosts[k].aT.length kZ]:List Value).toArray 81)).drew wr.heap.size [.string x.hosts[k].name,.slice dU x.hosts[k].labels.length dV,.int .i64 x.hosts[k].cpu,.int .i64 x.hosts[k].mem,.int .i64 x.hosts[k].slots,.slice kY x.hosts[k].aT.length kZ]:=(oG.new wr [.string x.hosts[k].name,.slice dU x.hosts[k].labels.length dV,.int .i64 x.hosts[k].cpu,.int .i64 x.hosts[k].mem,.int .i64 x.hosts[k].slots,.slice kY x.hosts[k].aT.length kZ] 81).ext (aA (aj _))
   have hbd:Below wr.heap.size wr (wr.alloc (.cells ([.string x.hosts[k].name,.slice dU x.hosts[k].labels.length dV,.int .i64 x.hosts[k].cpu,.int .i64 x.hosts[k].mem,.int .i64 x.hosts[k].slots,.slice kY x.hosts[k].aT.length kZ]:List Value).toArray 81)).drew:=aA (ak (aj _) _)
   have Zl:=mG hown hbd
   have hcd:=aY.ext hO hbd
   have hzd:=hbd.size
   have Y6:=Lib.hid (fun g hg=>(hown.lt g hg).2)
   have HLF:=Lib.hid hO.lt
   have hrd:=Dat.frame hr0 (fun b hb=>SD.below.block b (Dat.lt hr0 b hb)) SD.below.size
   have x0:(fun w'=>w'.cell? ⟨w.heap.size+1+1,0,none⟩ = some (.slice Av k cv)∧w'.cell? ⟨wr.heap.size,0,none⟩ = some (.string x.hosts[k].name)∧w'.cell? ⟨wr.heap.size,1,none⟩ = some (.slice dU x.hosts[k].labels.length dV)∧w'.cell? ⟨wr.heap.size,2,none⟩ = some (.int .i64 x.hosts[k].cpu)∧w'.cell? ⟨wr.heap.size,3,none⟩ = some (.int .i64 x.hosts[k].mem)∧w'.cell? ⟨wr.heap.size,4,none⟩ = some (.int .i64 x.hosts[k].slots)∧w'.cell? ⟨wr.heap.size,5,none⟩ = some (.slice kY x.hosts[k].aT.length kZ)) (wr.alloc (.cells ([.string x.hosts[k].name,.slice dU x.hosts[k].labels.length dV,.int .i64 x.hosts[k].cpu,.int .i64 x.hosts[k].mem,.int .i64 x.hosts[k].slots,.slice kY x.hosts[k].aT.length kZ]:List Value).toArray 81)).drew:=⟨SD.ob.cell (i:=0) (u:=.slice Av k cv) rfl,HBX.cell (i:=0) (u:=.string x.hosts[k].name) rfl,HBX.cell (i:=1) (u:=.slice dU x.hosts[k].labels.length dV) rfl,HBX.cell (i:=2) (u:=.int .i64 x.hosts[k].cpu) rfl,HBX.cell (i:=3) (u:=.int .i64 x.hosts[k].mem) rfl,HBX.cell (i:=4) (u:=.int .i64 x.hosts[k].slots) rfl,HBX.cell (i:=5) (u:=.slice kY x.hosts[k].aT.length kZ) rfl⟩
   have HNE:=Lib.hid hne
   clear hS hown hO hne hbd
   go_wp2_with fail
   refine uq (fun w'=>w'.cell? ⟨w.heap.size+1+1,0,none⟩ = some (.slice Av k cv)∧w'.cell? ⟨wr.heap.size,0,none⟩ = some (.string x.hosts[k].name)∧w'.cell? ⟨wr.heap.size,1,none⟩ = some (.slice dU x.hosts[k].labels.length dV)∧w'.cell? ⟨wr.heap.size,2,none⟩ = some (.int .i64 x.hosts[k].cpu)∧w'.cell? ⟨wr.heap.size,3,none⟩ = some (.int .i64 x.hosts[k].mem)∧w'.cell? ⟨wr.heap.size,4,none⟩ = some (.int .i64 x.hosts[k].slots)∧w'.cell? ⟨wr.heap.size,5,none⟩ = some (.slice kY x.hosts[k].aT.length kZ)) [0,1,2] [3,4,5] [6,7] (by kernel_rfl) (by kernel_rfl) (fun _ _ d _ _ h=>by cases d <;> exact h) x0 ?_
   clear x0
   generalize (wr.alloc (.cells ([.string x.hosts[k].name,.slice dU x.hosts[k].labels.length dV,.int .i64 x.hosts[k].cpu,.int .i64 x.hosts[k].mem,.int .i64 x.hosts[k].slots,.slice kY x.hosts[k].aT.length kZ]:List Value).toArray 81)).drew = wd at *
   simp only [pick,List.getElem?_cons_succ,List.getElem?_cons_zero]
   iterate 3
    (apply dR
     case hy =>
      refine Or.inl ⟨rfl,fun wq hq=>?_⟩
      obtain ⟨y0,y1,y2,y3,y4,y5,y6⟩:=hq
      go_simp
      try rfl
     simp only [Act.put,pz])
   refine fE ?_
   refine iK rfl (fun K hK=>?_)
   go_simp
   refine (ajs x.hosts[k] _ _ _ hrd hll htl).mono ?_
   rintro e w10 ⟨alW,G10,rfl,Hr,fP⟩
   have hrh:=Hr.rd
   obtain ⟨dZ,eF,uU,uV,uX,Xq,hck,hGh,Dh,qZ,IW,IX,abq,Qc⟩:=iy hrh
   subst hck
   clear hrh hGh
   have BZ:=SD.ext fP
   have Cb:=HBX.ext fP
   have x0:(fun w'=>w'.cell? ⟨w.heap.size+1+1,0,none⟩ = some (.slice Av k cv)∧w'.cell? ⟨wr.heap.size,0,none⟩ = some (.string x.hosts[k].name)∧w'.cell? ⟨wr.heap.size,1,none⟩ = some (.slice dU x.hosts[k].labels.length dV)∧w'.cell? ⟨wr.heap.size,2,none⟩ = some (.int .i64 x.hosts[k].cpu)∧w'.cell? ⟨wr.heap.size,3,none⟩ = some (.int .i64 x.hosts[k].mem)∧w'.cell? ⟨wr.heap.size,4,none⟩ = some (.int .i64 x.hosts[k].slots)∧w'.cell? ⟨wr.heap.size,5,none⟩ = some (.slice kY x.hosts[k].aT.length kZ)) w10:=⟨BZ.ob.cell (i:=0) (u:=.slice Av k cv) rfl,Cb.cell (i:=0) (u:=.string x.hosts[k].name) rfl,Cb.cell (i:=1) (u:=.slice dU x.hosts[k].labels.length dV) rfl,Cb.cell (i:=2) (u:=.int .i64 x.hosts[k].cpu) rfl,Cb.cell (i:=3) (u:=.int .i64 x.hosts[k].mem) rfl,Cb.cell (i:=4) (u:=.int .i64 x.hosts[k].slots) rfl,Cb.cell (i:=5) (u:=.slice kY x.hosts[k].aT.length kZ) rfl⟩
   refine hK _ _ x0 ?_
   try simp only [Act.put,pz]
   clear hK K
   clear x0
   refine iK rfl (fun K hK=>?_)
   go_simp
   have OB:=BZ.ext (ak (aj _) (.cells ([.string x.hosts[k].name,.slice dZ x.hosts[k].labels.length eF,.int .i64 x.hosts[k].cpu,.int .i64 x.hosts[k].mem,.int .i64 x.hosts[k].slots,.slice uV x.hosts[k].aT.length uX]:List Value).toArray 81))
   have J6:=oG.ext Cb (ak (aj _) (.cells ([.string x.hosts[k].name,.slice dZ x.hosts[k].labels.length eF,.int .i64 x.hosts[k].cpu,.int .i64 x.hosts[k].mem,.int .i64 x.hosts[k].slots,.slice uV x.hosts[k].aT.length uX]:List Value).toArray 81))
   have x0:(fun w'=>w'.cell? ⟨w.heap.size+1+1,0,none⟩ = some (.slice Av k cv)∧w'.cell? ⟨wr.heap.size,0,none⟩ = some (.string x.hosts[k].name)∧w'.cell? ⟨wr.heap.size,1,none⟩ = some (.slice dU x.hosts[k].labels.length dV)∧w'.cell? ⟨wr.heap.size,2,none⟩ = some (.int .i64 x.hosts[k].cpu)∧w'.cell? ⟨wr.heap.size,3,none⟩ = some (.int .i64 x.hosts[k].mem)∧w'.cell? ⟨wr.heap.size,4,none⟩ = some (.int .i64 x.hosts[k].slots)∧w'.cell? ⟨wr.heap.size,5,none⟩ = some (.slice kY x.hosts[k].aT.length kZ)) (w10.alloc (.cells ([.string x.hosts[k].name,.slice dZ x.hosts[k].labels.length eF,.int .i64 x.hosts[k].cpu,.int .i64 x.hosts[k].mem,.int .i64 x.hosts[k].slots,.slice uV x.hosts[k].aT.length uX]:List Value).toArray 81)):=⟨OB.ob.cell (i:=0) (u:=.slice Av k cv) rfl,J6.cell (i:=0) (u:=.string x.hosts[k].name) rfl,J6.cell (i:=1) (u:=.slice dU x.hosts[k].labels.length dV) rfl,J6.cell (i:=2) (u:=.int .i64 x.hosts[k].cpu) rfl,J6.cell (i:=3) (u:=.int .i64 x.hosts[k].mem) rfl,J6.cell (i:=4) (u:=.int .i64 x.hosts[k].slots) rfl,J6.cell (i:=5) (u:=.slice kY x.hosts[k].aT.length kZ) rfl⟩
   refine hK _ _ x0 ?_
   try simp only [Act.put,pz]
   clear hK K
   clear x0 OB J6
   have r10:=mG Zl fP
   have aek:=Lib.hid r10
   have acP:=Lib.hid (aY.ext hcd fP)
   have Si:=Lib.hid BZ
   have HHB:=Lib.hid Cb
   have ajv:=Lib.hid Hr
   have zO:wr.heap.size≤w10.heap.size:=Nat.le_trans hzd fP.size
   clear SD Zl hcd BZ Hr fP HBX Cb hrd
   refine iK rfl (fun K hK=>?_)
   refine Qb aeZ _ _ (by rfl) _ _ _ _ _ r10 (by rfl) [.string x.hosts[k].name,.slice dZ x.hosts[k].labels.length eF,.int .i64 x.hosts[k].cpu,.int .i64 x.hosts[k].mem,.int .i64 x.hosts[k].slots,.slice uV x.hosts[k].aT.length uX] aue (by rfl) aub (by omega) (by omega) (by omega) ?_
   intro v6 zu ug DV CO Uf
   obtain ⟨A7,c7,hv6⟩:=mY ug
   subst hv6
   have EW:=Si.out.grown DV (fun q hq=>by have:=(r10.lt q hq).1;omega)
   have Xr:=HHB.out.grown DV (fun q hq=>by have:=Y6.out q hq;omega)
   have x0:(fun w'=>w'.cell? ⟨w.heap.size+1+1,0,none⟩ = some (.slice Av k cv)∧w'.cell? ⟨wr.heap.size,0,none⟩ = some (.string x.hosts[k].name)∧w'.cell? ⟨wr.heap.size,1,none⟩ = some (.slice dU x.hosts[k].labels.length dV)∧w'.cell? ⟨wr.heap.size,2,none⟩ = some (.int .i64 x.hosts[k].cpu)∧w'.cell? ⟨wr.heap.size,3,none⟩ = some (.int .i64 x.hosts[k].mem)∧w'.cell? ⟨wr.heap.size,4,none⟩ = some (.int .i64 x.hosts[k].slots)∧w'.cell? ⟨wr.heap.size,5,none⟩ = some (.slice kY x.hosts[k].aT.length kZ)) zu:=⟨EW.ob.cell (i:=0) (u:=.slice Av k cv) rfl,Xr.cell (i:=0) (u:=.string x.hosts[k].name) rfl,Xr.cell (i:=1) (u:=.slice dU x.hosts[k].labels.length dV) rfl,Xr.cell (i:=2) (u:=.int .i64 x.hosts[k].cpu) rfl,Xr.cell (i:=3) (u:=.int .i64 x.hosts[k].mem) rfl,Xr.cell (i:=4) (u:=.int .i64 x.hosts[k].slots) rfl,Xr.cell (i:=5) (u:=.slice kY x.hosts[k].aT.length kZ) rfl⟩
   have fx:=EW.ob.fz 0
   have lx:=EW.ob.lt
   refine hK _ _ x0 ?_
   try simp only [Act.put,pz]
   clear hK K
   replace x0:=x0.1
   refine yG ?_
   go_wp2
   obtain ⟨Fb,Jl⟩:=aY.afm (v':=.slice A7 (k+1) c7) aek.out acP.out HNE.out ajv.out (by omega) (fun g hg=>by have:=Y6.out g hg;omega) (fun y hy=>by have:=HLF.out y hy;omega) DV Uf
   rw [← List.take_succ_eq_append_getElem hlt] at Fb
   have r13:=EJ (c:=w.heap.size+1+1) (i:=0) (u:=.slice A7 (k+1) c7) ug (fun g hg=>by have:=(ug.lt g hg).1;omega)
   refine ⟨⟨k+1,_,_,.slice A7 (k+1) c7,by omega,by go_num,r13,Fb.setCell (p:=⟨w.heap.size+1+1,0,none⟩) aun _,Jl,EW.put 0 (.slice A7 (k+1) c7),by have:=DV.size;simp only [World.setCell,Array.size_modify] at *;omega⟩,by simp [intOf];omega⟩
  ·have hkl:k = x.hosts.length:=by omega
   subst hkl
   rw [List.take_length] at hO
   obtain ⟨Ah,ch,Gh,rfl,Zm⟩:=Own.oJ hown hO hne
   obtain ⟨B4,hB4⟩:∃B4,wr.heap.size = B4:=⟨_,rfl⟩
   have Zn:=Lib.hid (show ∀y∈Gh,y < B4 from fun y hy=>hB4 ▸ Zm.lt y hy)
   have WV:B4≤wr.heap.size:=Nat.le_of_eq hB4.symm
   have hB34:w.heap.size+1+1+1≤B4:=by omega
   have hbx0:=hS.box.cell (i:=0) (u:=.slice bG x.hosts.length bD) rfl
   have hbx1:=hS.box.cell (i:=1) (u:=.slice dn x.au.length bW) rfl
   clear hB4 hown hO hne
   go_wp2_with fail
   clear hbx0 hbx1
   go_loopw [31] (fun i wr=>∃(k:Nat) (ds:List Value) (F':List Nat) (v:Value),k≤x.au.length∧i = .int .i64 k∧wr.ownsRow B4 54 9 v k ds∧aY wr B4 (x.au.take k) ds F'∧(∀g,v.ownBlock = some g→g∉F')∧Own wr (w.heap.size+1+1+1) x.hosts [.slice Ah x.hosts.length ch] Gh∧Cc w wr [.slice bG x.hosts.length bD,.slice dn x.au.length bW,.int .i64 x.next,.int .i64 x.weights.pack,.int .i64 x.weights.spread,.int .i64 x.weights.soft] [.slice none 0 0,.slice none 0 0,.int .i64 0,.int .i64 0,.int .i64 0,.int .i64 0] [.slice Ah x.hosts.length ch,v,.int .i64 x.next,.int .i64 x.weights.pack,.int .i64 x.weights.spread,.int .i64 x.weights.soft]∧B4≤wr.heap.size) (fun i _=>x.au.length - (intOf i).toNat)
   case atStart=>exact ⟨0,[],[],.slice none 0 0,Nat.zero_le _,rfl,⟨rfl,.inl ⟨rfl,rfl⟩⟩,aY.nil _ _,(fun g hg=>by simp),Zm,hS,WV⟩
   case round =>
    clear hS Zm WV hBr
    obtain ⟨k,ds,F',v,hk,rfl,hown,hO,hne,Zm,hS,hBr⟩:=hrel
    by_cases hlt:k < x.au.length
    ·obtain ⟨b,o,ck,Fk,rfl,o9,hbs,hr,hsub,hc⟩:=Sl.get (α:=Placed) dM hlt
     obtain ⟨c1,c2,F1,F2,rfl,rfl,QS,_,_,_,_,rfl,rfl,⟨rfl,rfl,hon⟩,⟨rfl,rfl,hseq⟩⟩:=hr
     have abj:=QS
     obtain ⟨dU,dV,Ba,mJ,mM,Vb,fK,fM,Fz,hck,hF1,hname1,jr,IQ,IU,Sj,Bv,qc⟩:=dL QS
     subst hck
     clear hF1 QS
     have q0:w.cell? ⟨b,o+k * 9,none⟩ = some (.string x.au[k].aS.name):=by exact hc 0 _ rfl
     replace q0:=((ay hS.below).1 b _ hbs).trans q0
     have q1:w.cell? ⟨b,o+k * 9+1,none⟩ = some (.slice dU x.au[k].aS.labels.length dV):=by rw [Nat.add_assoc];exact hc 1 _ rfl
     replace q1:=((ay hS.below).1 b _ hbs).trans q1
     have q2:w.cell? ⟨b,o+k * 9+2,none⟩ = some (.int .i64 x.au[k].aS.cpu):=by rw [Nat.add_assoc];exact hc 2 _ rfl
     replace q2:=((ay hS.below).1 b _ hbs).trans q2
     have q3:w.cell? ⟨b,o+k * 9+3,none⟩ = some (.int .i64 x.au[k].aS.mem):=by rw [Nat.add_assoc];exact hc 3 _ rfl
     replace q3:=((ay hS.below).1 b _ hbs).trans q3
     have q4:w.cell? ⟨b,o+k * 9+4,none⟩ = some (.int .i64 x.au[k].aS.rank):=by rw [Nat.add_assoc];exact hc 4 _ rfl
     replace q4:=((ay hS.below).1 b _ hbs).trans q4
     have q5:w.cell? ⟨b,o+k * 9+5,none⟩ = some (.slice mJ x.au[k].aS.needs.length mM):=by rw [Nat.add_assoc];exact hc 5 _ rfl
     replace q5:=((ay hS.below).1 b _ hbs).trans q5
     have q6:w.cell? ⟨b,o+k * 9+6,none⟩ = some (.slice fK x.au[k].aS.tolerances.length fM):=by rw [Nat.add_assoc];exact hc 6 _ rfl
     replace q6:=((ay hS.below).1 b _ hbs).trans q6
     have q7:w.cell? ⟨b,o+k * 9+7,none⟩ = some (.string x.au[k].on):=by rw [Nat.add_assoc];exact hc 7 _ rfl
     replace q7:=((ay hS.below).1 b _ hbs).trans q7
     have q8:w.cell? ⟨b,o+k * 9+8,none⟩ = some (.int .i64 x.au[k].seq):=by rw [Nat.add_assoc];exact hc 8 _ rfl
     replace q8:=((ay hS.below).1 b _ hbs).trans q8
     clear hc
     obtain ⟨hl1,hl2,hl3,hvv⟩:=HP.out x.au[k] (List.getElem_mem hlt)
     have HVV:=Lib.hid hvv
     obtain ⟨Av,cv,hv2⟩:=mY hown
     subst hv2
     clear hvv
     have SD:=(hS.ext (ak (aj _) (.cells ([.string x.au[k].aS.name,.slice dU x.au[k].aS.labels.length dV,.int .i64 x.au[k].aS.cpu,.int .i64 x.au[k].aS.mem,.int .i64 x.au[k].aS.rank,.slice mJ x.au[k].aS.needs.length mM,.slice fK x.au[k].aS.tolerances.length fM,.string x.au[k].on,.int .i64 x.au[k].seq]:List Value).toArray 54))).ext (aA (aj (wr.alloc (.cells ([.string x.au[k].aS.name,.slice dU x.au[k].aS.labels.length dV,.int .i64 x.au[k].aS.cpu,.int .i64 x.au[k].aS.mem,.int .i64 x.au[k].aS.rank,.slice mJ x.au[k].aS.needs.length mM,.slice fK x.au[k].aS.tolerances.length fM,.string x.au[k].on,.int .i64 x.au[k].seq]:List Value).toArray 54))))
     have HBX:oG (wr.alloc (.cells ([.string x.au[k].aS.name,.slice dU x.au[k].aS.labels.length dV,.int .i64 x.au[k].aS.cpu,.int .i64 x.au[k].aS.mem,.int .i64 x.au[k].aS.rank,.slice mJ x.au[k].aS.needs.length mM,.slice fK x.au[k].aS.tolerances.length fM,.string x.au[k].on,.int .i64 x.au[k].seq]:List Value).toArray 54)).drew wr.heap.size [.string x.au[k].aS.name,.slice dU x.au[k].aS.labels.length dV,.int .i64 x.au[k].aS.cpu,.int .i64 x.au[k].aS.mem,.int .i64 x.au[k].aS.rank,.slice mJ x.au[k].aS.needs.length mM,.slice fK x.au[k].aS.tolerances.length fM,.string x.au[k].on,.int .i64 x.au[k].seq]:=(oG.new wr [.string x.au[k].aS.name,.slice dU x.au[k].aS.labels.length dV,.int .i64 x.au[k].aS.cpu,.int .i64 x.au[k].aS.mem,.int .i64 x.au[k].aS.rank,.slice mJ x.au[k].aS.needs.length mM,.slice fK x.au[k].aS.tolerances.length fM,.string x.au[k].on,.int .i64 x.au[k].seq] 54).ext (aA (aj _))
     have hbd:Below wr.heap.size wr (wr.alloc (.cells ([.string x.au[k].aS.name,.slice dU x.au[k].aS.labels.length dV,.int .i64 x.au[k].aS.cpu,.int .i64 x.au[k].aS.mem,.int .i64 x.au[k].aS.rank,.slice mJ x.au[k].aS.needs.length mM,.slice fK x.au[k].aS.tolerances.length fM,.string x.au[k].on,.int .i64 x.au[k].seq]:List Value).toArray 54)).drew:=aA (ak (aj _) _)
     have Zl:=mG hown hbd
     have hcd:=aY.ext hO hbd
     have hod:=Own.ext Zm hbd
     have hzd:=hbd.size
     have Y6:=Lib.hid (fun g hg=>(hown.lt g hg).2)
     have HLF:=Lib.hid hO.lt
     have hrd:=Dat.frame abj (fun b hb=>SD.below.block b (Dat.lt abj b hb)) SD.below.size
     have x0:(fun w'=>w'.cell? ⟨w.heap.size+1+1,1,none⟩ = some (.slice Av k cv)∧w'.cell? ⟨wr.heap.size,0,none⟩ = some (.string x.au[k].aS.name)∧w'.cell? ⟨wr.heap.size,1,none⟩ = some (.slice dU x.au[k].aS.labels.length dV)∧w'.cell? ⟨wr.heap.size,2,none⟩ = some (.int .i64 x.au[k].aS.cpu)∧w'.cell? ⟨wr.heap.size,3,none⟩ = some (.int .i64 x.au[k].aS.mem)∧w'.cell? ⟨wr.heap.size,4,none⟩ = some (.int .i64 x.au[k].aS.rank)∧w'.cell? ⟨wr.heap.size,5,none⟩ = some (.slice mJ x.au[k].aS.needs.length mM)∧w'.cell? ⟨wr.heap.size,6,none⟩ = some (.slice fK x.au[k].aS.tolerances.length fM)∧w'.cell? ⟨wr.heap.size,7,none⟩ = some (.string x.au[k].on)∧w'.cell? ⟨wr.heap.size,8,none⟩ = some (.int .i64 x.au[k].seq)) (wr.alloc (.cells ([.string x.au[k].aS.name,.slice dU x.au[k].aS.labels.length dV,.int .i64 x.au[k].aS.cpu,.int .i64 x.au[k].aS.mem,.int .i64 x.au[k].aS.rank,.slice mJ x.au[k].aS.needs.length mM,.slice fK x.au[k].aS.tolerances.length fM,.string x.au[k].on,.int .i64 x.au[k].seq]:List Value).toArray 54)).drew:=⟨SD.ob.cell (i:=1) (u:=.slice Av k cv) rfl,HBX.cell (i:=0) (u:=.string x.au[k].aS.name) rfl,HBX.cell (i:=1) (u:=.slice dU x.au[k].aS.labels.length dV) rfl,HBX.cell (i:=2) (u:=.int .i64 x.au[k].aS.cpu) rfl,HBX.cell (i:=3) (u:=.int .i64 x.au[k].aS.mem) rfl,HBX.cell (i:=4) (u:=.int .i64 x.au[k].aS.rank) rfl,HBX.cell (i:=5) (u:=.slice mJ x.au[k].aS.needs.length mM) rfl,HBX.cell (i:=6) (u:=.slice fK x.au[k].aS.tolerances.length fM) rfl,HBX.cell (i:=7) (u:=.string x.au[k].on) rfl,HBX.cell (i:=8) (u:=.int .i64 x.au[k].seq) rfl⟩
     have HNE:=Lib.hid hne
     clear hS hown hO hne hbd Zm
     go_wp2_with fail
     refine uq (fun w'=>w'.cell? ⟨w.heap.size+1+1,1,none⟩ = some (.slice Av k cv)∧w'.cell? ⟨wr.heap.size,0,none⟩ = some (.string x.au[k].aS.name)∧w'.cell? ⟨wr.heap.size,1,none⟩ = some (.slice dU x.au[k].aS.labels.length dV)∧w'.cell? ⟨wr.heap.size,2,none⟩ = some (.int .i64 x.au[k].aS.cpu)∧w'.cell? ⟨wr.heap.size,3,none⟩ = some (.int .i64 x.au[k].aS.mem)∧w'.cell? ⟨wr.heap.size,4,none⟩ = some (.int .i64 x.au[k].aS.rank)∧w'.cell? ⟨wr.heap.size,5,none⟩ = some (.slice mJ x.au[k].aS.needs.length mM)∧w'.cell? ⟨wr.heap.size,6,none⟩ = some (.slice fK x.au[k].aS.tolerances.length fM)∧w'.cell? ⟨wr.heap.size,7,none⟩ = some (.string x.au[k].on)∧w'.cell? ⟨wr.heap.size,8,none⟩ = some (.int .i64 x.au[k].seq)) [0,1,2,3,5,6,7,8] [4,9,10,11] [12,13] (by kernel_rfl) (by kernel_rfl) (fun _ _ d _ _ h=>by cases d <;> exact h) x0 ?_
     clear x0
     generalize (wr.alloc (.cells ([.string x.au[k].aS.name,.slice dU x.au[k].aS.labels.length dV,.int .i64 x.au[k].aS.cpu,.int .i64 x.au[k].aS.mem,.int .i64 x.au[k].aS.rank,.slice mJ x.au[k].aS.needs.length mM,.slice fK x.au[k].aS.tolerances.length fM,.string x.au[k].on,.int .i64 x.au[k].seq]:List Value).toArray 54)).drew = wd at *
     simp only [pick,List.getElem?_cons_succ,List.getElem?_cons_zero]
     iterate 8
      (apply dR
       case hy =>
        refine Or.inl ⟨rfl,fun wq hq=>?_⟩
        obtain ⟨y0,y1,y2,y3,y4,y5,y6,y7,y8,y9⟩:=hq
        go_simp
        try rfl
       simp only [Act.put,pz])
     refine fE ?_
     refine iK rfl (fun K hK=>?_)
     go_simp
     refine (alS x.au[k].aS _ _ _ hrd hl1 hl2 hl3 HVV.out).mono ?_
     rintro e w10 ⟨alW,G10,rfl,Hr,fP⟩
     have hrh:=Hr.rd
     obtain ⟨dZ,eF,uU,jQ,jR,Et,dH,dI,qE,hck,hGh,Dh,qZ,IW,IX,I4,C9,oN⟩:=dL hrh
     subst hck
     clear hrh hGh
     have BZ:=SD.ext fP
     have Cb:=HBX.ext fP
     have x0:(fun w'=>w'.cell? ⟨w.heap.size+1+1,1,none⟩ = some (.slice Av k cv)∧w'.cell? ⟨wr.heap.size,0,none⟩ = some (.string x.au[k].aS.name)∧w'.cell? ⟨wr.heap.size,1,none⟩ = some (.slice dU x.au[k].aS.labels.length dV)∧w'.cell? ⟨wr.heap.size,2,none⟩ = some (.int .i64 x.au[k].aS.cpu)∧w'.cell? ⟨wr.heap.size,3,none⟩ = some (.int .i64 x.au[k].aS.mem)∧w'.cell? ⟨wr.heap.size,4,none⟩ = some (.int .i64 x.au[k].aS.rank)∧w'.cell? ⟨wr.heap.size,5,none⟩ = some (.slice mJ x.au[k].aS.needs.length mM)∧w'.cell? ⟨wr.heap.size,6,none⟩ = some (.slice fK x.au[k].aS.tolerances.length fM)∧w'.cell? ⟨wr.heap.size,7,none⟩ = some (.string x.au[k].on)∧w'.cell? ⟨wr.heap.size,8,none⟩ = some (.int .i64 x.au[k].seq)) w10:=⟨BZ.ob.cell (i:=1) (u:=.slice Av k cv) rfl,Cb.cell (i:=0) (u:=.string x.au[k].aS.name) rfl,Cb.cell (i:=1) (u:=.slice dU x.au[k].aS.labels.length dV) rfl,Cb.cell (i:=2) (u:=.int .i64 x.au[k].aS.cpu) rfl,Cb.cell (i:=3) (u:=.int .i64 x.au[k].aS.mem) rfl,Cb.cell (i:=4) (u:=.int .i64 x.au[k].aS.rank) rfl,Cb.cell (i:=5) (u:=.slice mJ x.au[k].aS.needs.length mM) rfl,Cb.cell (i:=6) (u:=.slice fK x.au[k].aS.tolerances.length fM) rfl,Cb.cell (i:=7) (u:=.string x.au[k].on) rfl,Cb.cell (i:=8) (u:=.int .i64 x.au[k].seq) rfl⟩
     refine hK _ _ x0 ?_
     try simp only [Act.put,pz]
     clear hK K
     clear x0
     refine iK rfl (fun K hK=>?_)
     go_simp
     have x0:(fun w'=>w'.cell? ⟨w.heap.size+1+1,1,none⟩ = some (.slice Av k cv)∧w'.cell? ⟨wr.heap.size,0,none⟩ = some (.string x.au[k].aS.name)∧w'.cell? ⟨wr.heap.size,1,none⟩ = some (.slice dU x.au[k].aS.labels.length dV)∧w'.cell? ⟨wr.heap.size,2,none⟩ = some (.int .i64 x.au[k].aS.cpu)∧w'.cell? ⟨wr.heap.size,3,none⟩ = some (.int .i64 x.au[k].aS.mem)∧w'.cell? ⟨wr.heap.size,4,none⟩ = some (.int .i64 x.au[k].aS.rank)∧w'.cell? ⟨wr.heap.size,5,none⟩ = some (.slice mJ x.au[k].aS.needs.length mM)∧w'.cell? ⟨wr.heap.size,6,none⟩ = some (.slice fK x.au[k].aS.tolerances.length fM)∧w'.cell? ⟨wr.heap.size,7,none⟩ = some (.string x.au[k].on)∧w'.cell? ⟨wr.heap.size,8,none⟩ = some (.int .i64 x.au[k].seq)) w10:=⟨BZ.ob.cell (i:=1) (u:=.slice Av k cv) rfl,Cb.cell (i:=0) (u:=.string x.au[k].aS.name) rfl,Cb.cell (i:=1) (u:=.slice dU x.au[k].aS.labels.length dV) rfl,Cb.cell (i:=2) (u:=.int .i64 x.au[k].aS.cpu) rfl,Cb.cell (i:=3) (u:=.int .i64 x.au[k].aS.mem) rfl,Cb.cell (i:=4) (u:=.int .i64 x.au[k].aS.rank) rfl,Cb.cell (i:=5) (u:=.slice mJ x.au[k].aS.needs.length mM) rfl,Cb.cell (i:=6) (u:=.slice fK x.au[k].aS.tolerances.length fM) rfl,Cb.cell (i:=7) (u:=.string x.au[k].on) rfl,Cb.cell (i:=8) (u:=.int .i64 x.au[k].seq) rfl⟩
     refine hK _ _ x0 ?_
     try simp only [Act.put,pz]
     clear hK K
     clear x0
     refine iK rfl (fun K hK=>?_)
     go_simp
     have OB:=BZ.ext (ak (aj _) (.cells ([.string x.au[k].aS.name,.slice dZ x.au[k].aS.labels.length eF,.int .i64 x.au[k].aS.cpu,.int .i64 x.au[k].aS.mem,.int .i64 x.au[k].aS.rank,.slice jQ x.au[k].aS.needs.length jR,.slice dH x.au[k].aS.tolerances.length dI,.string x.au[k].on,.int .i64 x.au[k].seq]:List Value).toArray 54))
     have J6:=oG.ext Cb (ak (aj _) (.cells ([.string x.au[k].aS.name,.slice dZ x.au[k].aS.labels.length eF,.int .i64 x.au[k].aS.cpu,.int .i64 x.au[k].aS.mem,.int .i64 x.au[k].aS.rank,.slice jQ x.au[k].aS.needs.length jR,.slice dH x.au[k].aS.tolerances.length dI,.string x.au[k].on,.int .i64 x.au[k].seq]:List Value).toArray 54))
     have x0:(fun w'=>w'.cell? ⟨w.heap.size+1+1,1,none⟩ = some (.slice Av k cv)∧w'.cell? ⟨wr.heap.size,0,none⟩ = some (.string x.au[k].aS.name)∧w'.cell? ⟨wr.heap.size,1,none⟩ = some (.slice dU x.au[k].aS.labels.length dV)∧w'.cell? ⟨wr.heap.size,2,none⟩ = some (.int .i64 x.au[k].aS.cpu)∧w'.cell? ⟨wr.heap.size,3,none⟩ = some (.int .i64 x.au[k].aS.mem)∧w'.cell? ⟨wr.heap.size,4,none⟩ = some (.int .i64 x.au[k].aS.rank)∧w'.cell? ⟨wr.heap.size,5,none⟩ = some (.slice mJ x.au[k].aS.needs.length mM)∧w'.cell? ⟨wr.heap.size,6,none⟩ = some (.slice fK x.au[k].aS.tolerances.length fM)∧w'.cell? ⟨wr.heap.size,7,none⟩ = some (.string x.au[k].on)∧w'.cell? ⟨wr.heap.size,8,none⟩ = some (.int .i64 x.au[k].seq)) (w10.alloc (.cells ([.string x.au[k].aS.name,.slice dZ x.au[k].aS.labels.length eF,.int .i64 x.au[k].aS.cpu,.int .i64 x.au[k].aS.mem,.int .i64 x.au[k].aS.rank,.slice jQ x.au[k].aS.needs.length jR,.slice dH x.au[k].aS.tolerances.length dI,.string x.au[k].on,.int .i64 x.au[k].seq]:List Value).toArray 54)):=⟨OB.ob.cell (i:=1) (u:=.slice Av k cv) rfl,J6.cell (i:=0) (u:=.string x.au[k].aS.name) rfl,J6.cell (i:=1) (u:=.slice dU x.au[k].aS.labels.length dV) rfl,J6.cell (i:=2) (u:=.int .i64 x.au[k].aS.cpu) rfl,J6.cell (i:=3) (u:=.int .i64 x.au[k].aS.mem) rfl,J6.cell (i:=4) (u:=.int .i64 x.au[k].aS.rank) rfl,J6.cell (i:=5) (u:=.slice mJ x.au[k].aS.needs.length mM) rfl,J6.cell (i:=6) (u:=.slice fK x.au[k].aS.tolerances.length fM) rfl,J6.cell (i:=7) (u:=.string x.au[k].on) rfl,J6.cell (i:=8) (u:=.int .i64 x.au[k].seq) rfl⟩
     refine hK _ _ x0 ?_
     try simp only [Act.put,pz]
     clear hK K
     clear x0 OB J6
     have r10:=mG Zl fP
     have aek:=Lib.hid r10
     have acP:=Lib.hid (aY.ext hcd fP)
     have HOHd:=Lib.hid (Own.ext hod fP)
     have Si:=Lib.hid BZ
     have HHB:=Lib.hid Cb
     have ajv:=Lib.hid (show Own w10 _ x.au[k] [.string x.au[k].aS.name,.slice dZ x.au[k].aS.labels.length eF,.int .i64 x.au[k].aS.cpu,.int .i64 x.au[k].aS.mem,.int .i64 x.au[k].aS.rank,.slice jQ x.au[k].aS.needs.length jR,.slice dH x.au[k].aS.tolerances.length dI,.string x.au[k].on,.int .i64 x.au[k].seq] G10 from Own.apg Hr hon hseq)
     have zO:wr.heap.size≤w10.heap.size:=Nat.le_trans hzd fP.size
     clear SD Zl hcd hod BZ Hr fP HBX Cb hrd
     refine iK rfl (fun K hK=>?_)
     refine Qb YH _ _ (by rfl) _ _ _ _ _ r10 (by rfl) [.string x.au[k].aS.name,.slice dZ x.au[k].aS.labels.length eF,.int .i64 x.au[k].aS.cpu,.int .i64 x.au[k].aS.mem,.int .i64 x.au[k].aS.rank,.slice jQ x.au[k].aS.needs.length jR,.slice dH x.au[k].aS.tolerances.length dI,.string x.au[k].on,.int .i64 x.au[k].seq] aue (by rfl) aub (by omega) (by omega) (by omega) ?_
     intro v6 zu ug DV CO Uf
     obtain ⟨A7,c7,hv6⟩:=mY ug
     subst hv6
     have EW:=Si.out.grown DV (fun q hq=>by have:=(r10.lt q hq).1;omega)
     have Xr:=HHB.out.grown DV (fun q hq=>by have:=Y6.out q hq;omega)
     have alX:=HOHd.out.aju DV Zn.out (fun q hq=>(r10.lt q hq).1)
     have x0:(fun w'=>w'.cell? ⟨w.heap.size+1+1,1,none⟩ = some (.slice Av k cv)∧w'.cell? ⟨wr.heap.size,0,none⟩ = some (.string x.au[k].aS.name)∧w'.cell? ⟨wr.heap.size,1,none⟩ = some (.slice dU x.au[k].aS.labels.length dV)∧w'.cell? ⟨wr.heap.size,2,none⟩ = some (.int .i64 x.au[k].aS.cpu)∧w'.cell? ⟨wr.heap.size,3,none⟩ = some (.int .i64 x.au[k].aS.mem)∧w'.cell? ⟨wr.heap.size,4,none⟩ = some (.int .i64 x.au[k].aS.rank)∧w'.cell? ⟨wr.heap.size,5,none⟩ = some (.slice mJ x.au[k].aS.needs.length mM)∧w'.cell? ⟨wr.heap.size,6,none⟩ = some (.slice fK x.au[k].aS.tolerances.length fM)∧w'.cell? ⟨wr.heap.size,7,none⟩ = some (.string x.au[k].on)∧w'.cell? ⟨wr.heap.size,8,none⟩ = some (.int .i64 x.au[k].seq)) zu:=⟨EW.ob.cell (i:=1) (u:=.slice Av k cv) rfl,Xr.cell (i:=0) (u:=.string x.au[k].aS.name) rfl,Xr.cell (i:=1) (u:=.slice dU x.au[k].aS.labels.length dV) rfl,Xr.cell (i:=2) (u:=.int .i64 x.au[k].aS.cpu) rfl,Xr.cell (i:=3) (u:=.int .i64 x.au[k].aS.mem) rfl,Xr.cell (i:=4) (u:=.int .i64 x.au[k].aS.rank) rfl,Xr.cell (i:=5) (u:=.slice mJ x.au[k].aS.needs.length mM) rfl,Xr.cell (i:=6) (u:=.slice fK x.au[k].aS.tolerances.length fM) rfl,Xr.cell (i:=7) (u:=.string x.au[k].on) rfl,Xr.cell (i:=8) (u:=.int .i64 x.au[k].seq) rfl⟩
     have fx:=EW.ob.fz 1
     have lx:=EW.ob.lt
     refine hK _ _ x0 ?_
     try simp only [Act.put,pz]
     clear hK K
     replace x0:=x0.1
     refine yG ?_
     go_wp2
     obtain ⟨Fb,Jl⟩:=aY.afm (v':=.slice A7 (k+1) c7) aek.out acP.out HNE.out ajv.out (by omega) (fun g hg=>by have:=Y6.out g hg;omega) (fun y hy=>by have:=HLF.out y hy;omega) DV Uf
     rw [← List.take_succ_eq_append_getElem hlt] at Fb
     have r13:=EJ (c:=w.heap.size+1+1) (i:=1) (u:=.slice A7 (k+1) c7) ug (fun g hg=>by have:=(ug.lt g hg).1;omega)
     refine ⟨⟨k+1,_,_,.slice A7 (k+1) c7,by omega,by go_num,r13,Fb.setCell (p:=⟨w.heap.size+1+1,1,none⟩) aun _,Jl,alX.setCell (p:=⟨w.heap.size+1+1,1,none⟩) aun _,EW.put 1 (.slice A7 (k+1) c7),by have:=DV.size;simp only [World.setCell,Array.size_modify] at *;omega⟩,by simp [intOf];omega⟩
    ·have hkl:k = x.au.length:=by omega
     subst hkl
     rw [List.take_length] at hO
     obtain ⟨Ap,cp,Gp,rfl,hOP⟩:=Own.oJ hown hO hne
     have HO:=Lib.hid (Own.alU Zm hOP (Nat.le_refl _) hB34 Zn.out hnext aV aP aW)
     have hbx1:=hS.box.cell (i:=1) (u:=.slice dn x.au.length bW) rfl
     have m0:=hS.ob.cell (i:=0) (u:=.slice Ah x.hosts.length ch) rfl
     have m1:=hS.ob.cell (i:=1) (u:=.slice Ap x.au.length cp) rfl
     have m2:=hS.ob.cell (i:=2) (u:=.int .i64 x.next) rfl
     have m3:=hS.ob.cell (i:=3) (u:=.int .i64 x.weights.pack) rfl
     have m4:=hS.ob.cell (i:=4) (u:=.int .i64 x.weights.spread) rfl
     have m5:=hS.ob.cell (i:=5) (u:=.int .i64 x.weights.soft) rfl
     have r0:=hS.rb.cell (i:=0) (u:=.slice none 0 0) rfl
     have r1:=hS.rb.cell (i:=1) (u:=.slice none 0 0) rfl
     have r2:=hS.rb.cell (i:=2) (u:=.int .i64 0) rfl
     have r3:=hS.rb.cell (i:=3) (u:=.int .i64 0) rfl
     have r4:=hS.rb.cell (i:=4) (u:=.int .i64 0) rfl
     have r5:=hS.rb.cell (i:=5) (u:=.int .i64 0) rfl
     have rl:=hS.rb.lt
     have rf:=hS.rb.fz
     have HS:=Lib.hid hS
     clear hS Zm hOP hown hO hne
     go_wp2_with fail
     try dsimp only
     iterate 60 (first | go_step | skip)
     refine bodyPost_ret (v:=.agg #[.slice Ah x.hosts.length ch,.slice Ap x.au.length cp,.int .i64 x.next,.int .i64 x.weights.pack,.int .i64 x.weights.spread,.int .i64 x.weights.soft]) (by simp [results,Tryz.results23,go_sem, *]) rfl ⟨[.slice Ah x.hosts.length ch,.slice Ap x.au.length cp,.int .i64 x.next,.int .i64 x.weights.pack,.int .i64 x.weights.spread,.int .i64 x.weights.soft],Gh++Gp,rfl,?_,?_⟩
     ·refine Own.mono (B:=w.heap.size+1+1+1) ?_ (by omega)
      exact av6
     ·exact au5
end Go.Proofs.YtnjibbpcafgglaaGreat
namespace Go.Proofs.YtnjibbpcafgglaaGreat
open Go.ChangeShapes Go.WideShapes Go.ChangeAt Go.RowKit
set_option linter.unusedVariables false
set_option linter.unusedSimpArgs false
theorem afs {α:Type} [Dat α] {w:World} {B c i:Nat} {u:Value} {xs:List α} {ds:List Value} {F:List Nat} (h:aY w B xs ds F) (hF:∀y∈F,y < c):aY (w.setCell ⟨c,i,none⟩ u) B xs ds F :=
 h.keep (fun y hy=>Below.heap_setCell _ _ _ _ avg) aua
theorem OC {α:Type} [Dat α] {w:World} {B c i:Nat} {u:Value} {x:α} {cs:List Value} {F:List Nat} (h:Own w B x cs F) (hF:∀y∈F,y < c):Own (w.setCell ⟨c,i,none⟩ u) B x cs F :=
 h.keep (fun y hy=>Below.heap_setCell _ _ _ _ avg) aua
set_option maxRecDepth 100000 in
set_option maxHeartbeats 8000000 in
theorem BO (x:aU) (cs:List Value) (F:List Nat) (w:World) (h:rd w x cs F) (hw:(x.wt:Int)≤1048576) :
 Calls Tryz.prog 16 #[.agg cs.toArray] w fun e w'=>∃cs F,e = .returned (.agg cs.toArray)∧Own w' w.heap.size x cs F∧Below w.heap.size w w':=by
 obtain ⟨hhl,hpl,HH,HP⟩:=adD x hw
 clear hw
 obtain ⟨bG,bD,fQ,dn,bW,jg,hck,qp,bQ,dM,hnext,aV,aP,aW⟩:=aO h
 subst hck
 clear qp h
 have S0:=Cc.new w [.slice bG x.hosts.length bD,.slice dn x.au.length bW,.int .i64 x.next,.int .i64 x.weights.pack,.int .i64 x.weights.spread,.int .i64 x.weights.soft] [.slice none 0 0,.slice none 0 0,.int .i64 0,.int .i64 0,.int .i64 0,.int .i64 0] [.slice none 0 0,.slice none 0 0,.int .i64 x.next,.int .i64 x.weights.pack,.int .i64 x.weights.spread,.int .i64 x.weights.soft] 33
 go_enter Tryz.func16,Tryz.ntmps16
 go_wp2_with fail
 go_loopw [4] (fun i wr=>∃(k:Nat) (ds:List Value) (F':List Nat) (v:Value),k≤x.hosts.length∧i = .int .i64 k∧wr.ownsRow (w.heap.size+1+1+1) 81 6 v k ds∧aY wr (w.heap.size+1+1+1) (x.hosts.take k) ds F'∧(∀g,v.ownBlock = some g→g∉F')∧Cc w wr [.slice bG x.hosts.length bD,.slice dn x.au.length bW,.int .i64 x.next,.int .i64 x.weights.pack,.int .i64 x.weights.spread,.int .i64 x.weights.soft] [.slice none 0 0,.slice none 0 0,.int .i64 0,.int .i64 0,.int .i64 0,.int .i64 0] [v,.slice none 0 0,.int .i64 x.next,.int .i64 x.weights.pack,.int .i64 x.weights.spread,.int .i64 x.weights.soft]∧w.heap.size+1+1+1≤wr.heap.size) (fun i _=>x.hosts.length - (intOf i).toNat)
 case atStart=>exact ⟨0,[],[],.slice none 0 0,Nat.zero_le _,rfl,⟨rfl,.inl ⟨rfl,rfl⟩⟩,aY.nil _ _,(fun g hg=>by simp),S0,by simp [World.setCell]⟩
 case round =>
  obtain ⟨k,ds,F',v,hk,rfl,hown,hO,hne,hS,hBr⟩:=hrel
  by_cases hlt:k < x.hosts.length
  ·obtain ⟨b,o,ck,Fk,rfl,o9,hbs,hr,hsub,hc⟩:=Sl.get (α:=Host) bQ hlt
   have hr0:=hr
   obtain ⟨dU,dV,Ba,kY,kZ,NR,hck,hF1,hname1,jr,IQ,IU,KD,yO⟩:=iy hr
   subst hck
   clear hF1 hr
   have q0:w.cell? ⟨b,o+k * 6,none⟩ = some (.string x.hosts[k].name):=by exact hc 0 _ rfl
   have p0:=q0
   replace q0:=((ay hS.below).1 b _ hbs).trans q0
   have q1:w.cell? ⟨b,o+k * 6+1,none⟩ = some (.slice dU x.hosts[k].labels.length dV):=by rw [Nat.add_assoc];exact hc 1 _ rfl
   have p1:=q1
   replace q1:=((ay hS.below).1 b _ hbs).trans q1
   have q2:w.cell? ⟨b,o+k * 6+2,none⟩ = some (.int .i64 x.hosts[k].cpu):=by rw [Nat.add_assoc];exact hc 2 _ rfl
   have p2:=q2
   replace q2:=((ay hS.below).1 b _ hbs).trans q2
   have q3:w.cell? ⟨b,o+k * 6+3,none⟩ = some (.int .i64 x.hosts[k].mem):=by rw [Nat.add_assoc];exact hc 3 _ rfl
   have p3:=q3
   replace q3:=((ay hS.below).1 b _ hbs).trans q3
   have q4:w.cell? ⟨b,o+k * 6+4,none⟩ = some (.int .i64 x.hosts[k].slots):=by rw [Nat.add_assoc];exact hc 4 _ rfl
   have p4:=q4
   replace q4:=((ay hS.below).1 b _ hbs).trans q4
   have q5:w.cell? ⟨b,o+k * 6+5,none⟩ = some (.slice kY x.hosts[k].aT.length kZ):=by rw [Nat.add_assoc];exact hc 5 _ rfl
   have p5:=q5
   replace q5:=((ay hS.below).1 b _ hbs).trans q5
   obtain ⟨hll,htl⟩:=HH.out x.hosts[k] (List.getElem_mem hlt)
   obtain ⟨Av,cv,hv2⟩:=mY hown
   subst hv2
   have SD:=(hS.ext (aj _)).ext (aA (aj wr))
   have HBX:True:=trivial
   have hbd:Below wr.heap.size wr wr.drew:=aA (aj _)
   have Zl:=mG hown hbd
   have hcd:=aY.ext hO hbd
   have hzd:=hbd.size
   have Y6:=Lib.hid (fun g hg=>(hown.lt g hg).2)
   have HLF:=Lib.hid hO.lt
   have hrd:=Dat.frame hr0 (fun b hb=>SD.below.block b (Dat.lt hr0 b hb)) SD.below.size
   have x0:(fun w'=>w'.cell? ⟨w.heap.size+1+1,0,none⟩ = some (.slice Av k cv)∧w'.cell? ⟨w.heap.size,0,none⟩ = some (.slice (some ⟨b,o,none⟩) x.hosts.length bD)∧w'.cell? ⟨b,o+k * 6,none⟩ = some (.string x.hosts[k].name)∧w'.cell? ⟨b,o+k * 6+1,none⟩ = some (.slice dU x.hosts[k].labels.length dV)∧w'.cell? ⟨b,o+k * 6+2,none⟩ = some (.int .i64 x.hosts[k].cpu)∧w'.cell? ⟨b,o+k * 6+3,none⟩ = some (.int .i64 x.hosts[k].mem)∧w'.cell? ⟨b,o+k * 6+4,none⟩ = some (.int .i64 x.hosts[k].slots)∧w'.cell? ⟨b,o+k * 6+5,none⟩ = some (.slice kY x.hosts[k].aT.length kZ)) wr.drew:=⟨SD.ob.cell (i:=0) (u:=.slice Av k cv) rfl,SD.box.cell (i:=0) (u:=.slice (some ⟨b,o,none⟩) x.hosts.length bD) rfl,((ay SD.below).1 b _ hbs).trans p0,((ay SD.below).1 b _ hbs).trans p1,((ay SD.below).1 b _ hbs).trans p2,((ay SD.below).1 b _ hbs).trans p3,((ay SD.below).1 b _ hbs).trans p4,((ay SD.below).1 b _ hbs).trans p5⟩
   have HNE:=Lib.hid hne
   have hbx0:=hS.box.cell (i:=0) (u:=.slice (some ⟨b,o,none⟩) x.hosts.length bD) rfl
   clear hS hown hO hne hbd
   go_wp2_with fail
   clear hbx0
   refine uq (fun w'=>w'.cell? ⟨w.heap.size+1+1,0,none⟩ = some (.slice Av k cv)∧w'.cell? ⟨w.heap.size,0,none⟩ = some (.slice (some ⟨b,o,none⟩) x.hosts.length bD)∧w'.cell? ⟨b,o+k * 6,none⟩ = some (.string x.hosts[k].name)∧w'.cell? ⟨b,o+k * 6+1,none⟩ = some (.slice dU x.hosts[k].labels.length dV)∧w'.cell? ⟨b,o+k * 6+2,none⟩ = some (.int .i64 x.hosts[k].cpu)∧w'.cell? ⟨b,o+k * 6+3,none⟩ = some (.int .i64 x.hosts[k].mem)∧w'.cell? ⟨b,o+k * 6+4,none⟩ = some (.int .i64 x.hosts[k].slots)∧w'.cell? ⟨b,o+k * 6+5,none⟩ = some (.slice kY x.hosts[k].aT.length kZ)) [0,1,2,3,4,5,6] [7,8,9] [10,11] (by kernel_rfl) (by kernel_rfl) (fun _ _ d _ _ h=>by cases d <;> exact h) x0 ?_
   clear x0
   generalize wr.drew = wd at *
   simp only [pick,List.getElem?_cons_succ,List.getElem?_cons_zero]
   iterate 7
    (apply dR
     case hy =>
      refine Or.inl ⟨rfl,fun wq hq=>?_⟩
      obtain ⟨y0,y1,y2,y3,y4,y5,y6,y7⟩:=hq
      go_simp
      try rfl
     simp only [Act.put,pz])
   refine fE ?_
   refine iK rfl (fun K hK=>?_)
   go_simp
   refine (alT x.hosts[k] _ _ _ hrd hll htl).mono ?_
   rintro e w10 ⟨alW,G10,rfl,Hr,fP⟩
   have hrh:=Hr.rd
   obtain ⟨dZ,eF,uU,uV,uX,Xq,hck,hGh,Dh,qZ,IW,IX,abq,Qc⟩:=iy hrh
   subst hck
   clear hrh hGh
   have BZ:=SD.ext fP
   have Cb:=trivial
   have x0:(fun w'=>w'.cell? ⟨w.heap.size+1+1,0,none⟩ = some (.slice Av k cv)∧w'.cell? ⟨w.heap.size,0,none⟩ = some (.slice (some ⟨b,o,none⟩) x.hosts.length bD)∧w'.cell? ⟨b,o+k * 6,none⟩ = some (.string x.hosts[k].name)∧w'.cell? ⟨b,o+k * 6+1,none⟩ = some (.slice dU x.hosts[k].labels.length dV)∧w'.cell? ⟨b,o+k * 6+2,none⟩ = some (.int .i64 x.hosts[k].cpu)∧w'.cell? ⟨b,o+k * 6+3,none⟩ = some (.int .i64 x.hosts[k].mem)∧w'.cell? ⟨b,o+k * 6+4,none⟩ = some (.int .i64 x.hosts[k].slots)∧w'.cell? ⟨b,o+k * 6+5,none⟩ = some (.slice kY x.hosts[k].aT.length kZ)) w10:=⟨BZ.ob.cell (i:=0) (u:=.slice Av k cv) rfl,BZ.box.cell (i:=0) (u:=.slice (some ⟨b,o,none⟩) x.hosts.length bD) rfl,((ay BZ.below).1 b _ hbs).trans p0,((ay BZ.below).1 b _ hbs).trans p1,((ay BZ.below).1 b _ hbs).trans p2,((ay BZ.below).1 b _ hbs).trans p3,((ay BZ.below).1 b _ hbs).trans p4,((ay BZ.below).1 b _ hbs).trans p5⟩
   refine hK _ _ x0 ?_
   try simp only [Act.put,pz]
   clear hK K
   clear x0
   refine iK rfl (fun K hK=>?_)
   go_simp
   have OB:=BZ.ext (ak (aj _) (.cells ([.string x.hosts[k].name,.slice dZ x.hosts[k].labels.length eF,.int .i64 x.hosts[k].cpu,.int .i64 x.hosts[k].mem,.int .i64 x.hosts[k].slots,.slice uV x.hosts[k].aT.length uX]:List Value).toArray 81))
   have J6:=trivial
   have x0:(fun w'=>w'.cell? ⟨w.heap.size+1+1,0,none⟩ = some (.slice Av k cv)∧w'.cell? ⟨w.heap.size,0,none⟩ = some (.slice (some ⟨b,o,none⟩) x.hosts.length bD)∧w'.cell? ⟨b,o+k * 6,none⟩ = some (.string x.hosts[k].name)∧w'.cell? ⟨b,o+k * 6+1,none⟩ = some (.slice dU x.hosts[k].labels.length dV)∧w'.cell? ⟨b,o+k * 6+2,none⟩ = some (.int .i64 x.hosts[k].cpu)∧w'.cell? ⟨b,o+k * 6+3,none⟩ = some (.int .i64 x.hosts[k].mem)∧w'.cell? ⟨b,o+k * 6+4,none⟩ = some (.int .i64 x.hosts[k].slots)∧w'.cell? ⟨b,o+k * 6+5,none⟩ = some (.slice kY x.hosts[k].aT.length kZ)) (w10.alloc (.cells ([.string x.hosts[k].name,.slice dZ x.hosts[k].labels.length eF,.int .i64 x.hosts[k].cpu,.int .i64 x.hosts[k].mem,.int .i64 x.hosts[k].slots,.slice uV x.hosts[k].aT.length uX]:List Value).toArray 81)):=⟨OB.ob.cell (i:=0) (u:=.slice Av k cv) rfl,OB.box.cell (i:=0) (u:=.slice (some ⟨b,o,none⟩) x.hosts.length bD) rfl,((ay OB.below).1 b _ hbs).trans p0,((ay OB.below).1 b _ hbs).trans p1,((ay OB.below).1 b _ hbs).trans p2,((ay OB.below).1 b _ hbs).trans p3,((ay OB.below).1 b _ hbs).trans p4,((ay OB.below).1 b _ hbs).trans p5⟩
   refine hK _ _ x0 ?_
   try simp only [Act.put,pz]
   clear hK K
   clear x0 OB J6
   have r10:=mG Zl fP
   have aek:=Lib.hid r10
   have acP:=Lib.hid (aY.ext hcd fP)
   have Si:=Lib.hid BZ
   have HHB:=Lib.hid Cb
   have ajv:=Lib.hid Hr
   have zO:wr.heap.size≤w10.heap.size:=Nat.le_trans hzd fP.size
   clear SD Zl hcd BZ Hr fP HBX Cb hrd
   refine iK rfl (fun K hK=>?_)
   refine Qb aeZ _ _ (by rfl) _ _ _ _ _ r10 (by rfl) [.string x.hosts[k].name,.slice dZ x.hosts[k].labels.length eF,.int .i64 x.hosts[k].cpu,.int .i64 x.hosts[k].mem,.int .i64 x.hosts[k].slots,.slice uV x.hosts[k].aT.length uX] aue (by rfl) aub (by omega) (by omega) (by omega) ?_
   intro v6 zu ug DV CO Uf
   obtain ⟨A7,c7,hv6⟩:=mY ug
   subst hv6
   have EW:=Si.out.grown DV (fun q hq=>by have:=(r10.lt q hq).1;omega)
   have Xr:=trivial
   have x0:(fun w'=>w'.cell? ⟨w.heap.size+1+1,0,none⟩ = some (.slice Av k cv)∧w'.cell? ⟨w.heap.size,0,none⟩ = some (.slice (some ⟨b,o,none⟩) x.hosts.length bD)∧w'.cell? ⟨b,o+k * 6,none⟩ = some (.string x.hosts[k].name)∧w'.cell? ⟨b,o+k * 6+1,none⟩ = some (.slice dU x.hosts[k].labels.length dV)∧w'.cell? ⟨b,o+k * 6+2,none⟩ = some (.int .i64 x.hosts[k].cpu)∧w'.cell? ⟨b,o+k * 6+3,none⟩ = some (.int .i64 x.hosts[k].mem)∧w'.cell? ⟨b,o+k * 6+4,none⟩ = some (.int .i64 x.hosts[k].slots)∧w'.cell? ⟨b,o+k * 6+5,none⟩ = some (.slice kY x.hosts[k].aT.length kZ)) zu:=⟨EW.ob.cell (i:=0) (u:=.slice Av k cv) rfl,EW.box.cell (i:=0) (u:=.slice (some ⟨b,o,none⟩) x.hosts.length bD) rfl,((ay EW.below).1 b _ hbs).trans p0,((ay EW.below).1 b _ hbs).trans p1,((ay EW.below).1 b _ hbs).trans p2,((ay EW.below).1 b _ hbs).trans p3,((ay EW.below).1 b _ hbs).trans p4,((ay EW.below).1 b _ hbs).trans p5⟩
   have fx:=EW.ob.fz 0
   have lx:=EW.ob.lt
   refine hK _ _ x0 ?_
   try simp only [Act.put,pz]
   clear hK K
   replace x0:=x0.1
   refine yG ?_
   go_wp2
   obtain ⟨Fb,Jl⟩:=aY.afm (v':=.slice A7 (k+1) c7) aek.out acP.out HNE.out ajv.out (by omega) (fun g hg=>by have:=Y6.out g hg;omega) (fun y hy=>by have:=HLF.out y hy;omega) DV Uf
   rw [← List.take_succ_eq_append_getElem hlt] at Fb
   have r13:=EJ (c:=w.heap.size+1+1) (i:=0) (u:=.slice A7 (k+1) c7) ug (fun g hg=>by have:=(ug.lt g hg).1;omega)
   refine ⟨⟨k+1,_,_,.slice A7 (k+1) c7,by omega,by go_num,r13,Fb.setCell (p:=⟨w.heap.size+1+1,0,none⟩) aun _,Jl,EW.put 0 (.slice A7 (k+1) c7),by have:=DV.size;simp only [World.setCell,Array.size_modify] at *;omega⟩,by simp [intOf];omega⟩
  ·have hkl:k = x.hosts.length:=by omega
   subst hkl
   rw [List.take_length] at hO
   obtain ⟨Ah,ch,Gh,rfl,Zm⟩:=Own.oJ hown hO hne
   obtain ⟨B4,hB4⟩:∃B4,wr.heap.size = B4:=⟨_,rfl⟩
   have Zn:=Lib.hid (show ∀y∈Gh,y < B4 from fun y hy=>hB4 ▸ Zm.lt y hy)
   have WV:B4≤wr.heap.size:=Nat.le_of_eq hB4.symm
   have hB34:w.heap.size+1+1+1≤B4:=by omega
   have hbx0:=hS.box.cell (i:=0) (u:=.slice bG x.hosts.length bD) rfl
   have hbx1:=hS.box.cell (i:=1) (u:=.slice dn x.au.length bW) rfl
   clear hB4 hown hO hne
   go_wp2_with fail
   clear hbx0 hbx1
   go_loopw [5] (fun i wr=>∃(k:Nat) (ds:List Value) (F':List Nat) (v:Value),k≤x.au.length∧i = .int .i64 k∧wr.ownsRow B4 54 9 v k ds∧aY wr B4 (x.au.take k) ds F'∧(∀g,v.ownBlock = some g→g∉F')∧Own wr (w.heap.size+1+1+1) x.hosts [.slice Ah x.hosts.length ch] Gh∧Cc w wr [.slice bG x.hosts.length bD,.slice dn x.au.length bW,.int .i64 x.next,.int .i64 x.weights.pack,.int .i64 x.weights.spread,.int .i64 x.weights.soft] [.slice none 0 0,.slice none 0 0,.int .i64 0,.int .i64 0,.int .i64 0,.int .i64 0] [.slice Ah x.hosts.length ch,v,.int .i64 x.next,.int .i64 x.weights.pack,.int .i64 x.weights.spread,.int .i64 x.weights.soft]∧B4≤wr.heap.size) (fun i _=>x.au.length - (intOf i).toNat)
   case atStart=>exact ⟨0,[],[],.slice none 0 0,Nat.zero_le _,rfl,⟨rfl,.inl ⟨rfl,rfl⟩⟩,aY.nil _ _,(fun g hg=>by simp),Zm,hS,WV⟩
   case round =>
    clear hS Zm WV hBr
    obtain ⟨k,ds,F',v,hk,rfl,hown,hO,hne,Zm,hS,hBr⟩:=hrel
    by_cases hlt:k < x.au.length
    ·obtain ⟨b,o,ck,Fk,rfl,o9,hbs,hr,hsub,hc⟩:=Sl.get (α:=Placed) dM hlt
     obtain ⟨c1,c2,F1,F2,rfl,rfl,QS,_,_,_,_,rfl,rfl,⟨rfl,rfl,hon⟩,⟨rfl,rfl,hseq⟩⟩:=hr
     have abj:=QS
     obtain ⟨dU,dV,Ba,mJ,mM,Vb,fK,fM,Fz,hck,hF1,hname1,jr,IQ,IU,Sj,Bv,qc⟩:=dL QS
     subst hck
     clear hF1 QS
     have q0:w.cell? ⟨b,o+k * 9,none⟩ = some (.string x.au[k].aS.name):=by exact hc 0 _ rfl
     replace q0:=((ay hS.below).1 b _ hbs).trans q0
     have q1:w.cell? ⟨b,o+k * 9+1,none⟩ = some (.slice dU x.au[k].aS.labels.length dV):=by rw [Nat.add_assoc];exact hc 1 _ rfl
     replace q1:=((ay hS.below).1 b _ hbs).trans q1
     have q2:w.cell? ⟨b,o+k * 9+2,none⟩ = some (.int .i64 x.au[k].aS.cpu):=by rw [Nat.add_assoc];exact hc 2 _ rfl
     replace q2:=((ay hS.below).1 b _ hbs).trans q2
     have q3:w.cell? ⟨b,o+k * 9+3,none⟩ = some (.int .i64 x.au[k].aS.mem):=by rw [Nat.add_assoc];exact hc 3 _ rfl
     replace q3:=((ay hS.below).1 b _ hbs).trans q3
     have q4:w.cell? ⟨b,o+k * 9+4,none⟩ = some (.int .i64 x.au[k].aS.rank):=by rw [Nat.add_assoc];exact hc 4 _ rfl
     replace q4:=((ay hS.below).1 b _ hbs).trans q4
     have q5:w.cell? ⟨b,o+k * 9+5,none⟩ = some (.slice mJ x.au[k].aS.needs.length mM):=by rw [Nat.add_assoc];exact hc 5 _ rfl
     replace q5:=((ay hS.below).1 b _ hbs).trans q5
     have q6:w.cell? ⟨b,o+k * 9+6,none⟩ = some (.slice fK x.au[k].aS.tolerances.length fM):=by rw [Nat.add_assoc];exact hc 6 _ rfl
     replace q6:=((ay hS.below).1 b _ hbs).trans q6
     have q7:w.cell? ⟨b,o+k * 9+7,none⟩ = some (.string x.au[k].on):=by rw [Nat.add_assoc];exact hc 7 _ rfl
     replace q7:=((ay hS.below).1 b _ hbs).trans q7
     have q8:w.cell? ⟨b,o+k * 9+8,none⟩ = some (.int .i64 x.au[k].seq):=by rw [Nat.add_assoc];exact hc 8 _ rfl
     replace q8:=((ay hS.below).1 b _ hbs).trans q8
     clear hc
     obtain ⟨hl1,hl2,hl3,hvv⟩:=HP.out x.au[k] (List.getElem_mem hlt)
     have HVV:=Lib.hid hvv
     obtain ⟨Av,cv,hv2⟩:=mY hown
     subst hv2
     clear hvv
     have SD:=hS.ext (ak (aj _) (.cells ([.string x.au[k].aS.name,.slice dU x.au[k].aS.labels.length dV,.int .i64 x.au[k].aS.cpu,.int .i64 x.au[k].aS.mem,.int .i64 x.au[k].aS.rank,.slice mJ x.au[k].aS.needs.length mM,.slice fK x.au[k].aS.tolerances.length fM,.string x.au[k].on,.int .i64 x.au[k].seq]:List Value).toArray 54))
     have HBX:oG (wr.alloc (.cells ([.string x.au[k].aS.name,.slice dU x.au[k].aS.labels.length dV,.int .i64 x.au[k].aS.cpu,.int .i64 x.au[k].aS.mem,.int .i64 x.au[k].aS.rank,.slice mJ x.au[k].aS.needs.length mM,.slice fK x.au[k].aS.tolerances.length fM,.string x.au[k].on,.int .i64 x.au[k].seq]:List Value).toArray 54)) wr.heap.size [.string x.au[k].aS.name,.slice dU x.au[k].aS.labels.length dV,.int .i64 x.au[k].aS.cpu,.int .i64 x.au[k].aS.mem,.int .i64 x.au[k].aS.rank,.slice mJ x.au[k].aS.needs.length mM,.slice fK x.au[k].aS.tolerances.length fM,.string x.au[k].on,.int .i64 x.au[k].seq]:=oG.new wr [.string x.au[k].aS.name,.slice dU x.au[k].aS.labels.length dV,.int .i64 x.au[k].aS.cpu,.int .i64 x.au[k].aS.mem,.int .i64 x.au[k].aS.rank,.slice mJ x.au[k].aS.needs.length mM,.slice fK x.au[k].aS.tolerances.length fM,.string x.au[k].on,.int .i64 x.au[k].seq] 54
     have hbd:Below wr.heap.size wr (wr.alloc (.cells ([.string x.au[k].aS.name,.slice dU x.au[k].aS.labels.length dV,.int .i64 x.au[k].aS.cpu,.int .i64 x.au[k].aS.mem,.int .i64 x.au[k].aS.rank,.slice mJ x.au[k].aS.needs.length mM,.slice fK x.au[k].aS.tolerances.length fM,.string x.au[k].on,.int .i64 x.au[k].seq]:List Value).toArray 54)):=ak (aj _) _
     have Zl:=mG hown hbd
     have hcd:=aY.ext hO hbd
     have hod:=Own.ext Zm hbd
     have hzd:=hbd.size
     have Y6:=Lib.hid (fun g hg=>(hown.lt g hg).2)
     have HLF:=Lib.hid hO.lt
     have hrd:=Dat.frame abj (fun b hb=>SD.below.block b (Dat.lt abj b hb)) SD.below.size
     have HNE:=Lib.hid hne
     have hbx0:=hS.box.cell (i:=1) (u:=.slice (some ⟨b,o,none⟩) x.au.length bW) rfl
     have hlz:=hS.lt
     clear hS hown hO hne hbd Zm
     go_wp2_with fail
     clear hbx0
     refine (anU x.au[k].aS _ _ _ hrd hl1 hl2 hl3 HVV.out).mono ?_
     rintro e w10 ⟨alW,G10,rfl,Hr,fP⟩
     have hrh:=Hr.rd
     obtain ⟨dZ,eF,uU,jQ,jR,Et,dH,dI,qE,hck,hGh,Dh,qZ,IW,IX,I4,C9,oN⟩:=dL hrh
     subst hck
     clear hrh hGh
     have BZ:=SD.ext fP
     have Cb:=HBX.ext fP
     have r10:=mG Zl fP
     have zO:wr.heap.size < w10.heap.size:=Cb.lt
     have KH:=aY.ext hcd fP
     have ael:=Own.ext hod fP
     have k0:=Cb.cell (i:=0) (u:=.string x.au[k].aS.name) rfl
     have k1:=Cb.cell (i:=1) (u:=.slice dU x.au[k].aS.labels.length dV) rfl
     have k2:=Cb.cell (i:=2) (u:=.int .i64 x.au[k].aS.cpu) rfl
     have k3:=Cb.cell (i:=3) (u:=.int .i64 x.au[k].aS.mem) rfl
     have k4:=Cb.cell (i:=4) (u:=.int .i64 x.au[k].aS.rank) rfl
     have k5:=Cb.cell (i:=5) (u:=.slice mJ x.au[k].aS.needs.length mM) rfl
     have k6:=Cb.cell (i:=6) (u:=.slice fK x.au[k].aS.tolerances.length fM) rfl
     have k7:=Cb.cell (i:=7) (u:=.string x.au[k].on) rfl
     have k8:=Cb.cell (i:=8) (u:=.int .i64 x.au[k].seq) rfl
     have kf:=Cb.fz
     have ko:=BZ.ob.cell (i:=1) (u:=.slice Av k cv) rfl
     have hlp:Own w10 (wr.heap.size+1) x.au[k] [.string x.au[k].aS.name,.slice dZ x.au[k].aS.labels.length eF,.int .i64 x.au[k].aS.cpu,.int .i64 x.au[k].aS.mem,.int .i64 x.au[k].aS.rank,.slice jQ x.au[k].aS.needs.length jR,.slice dH x.au[k].aS.tolerances.length dI,.string x.au[k].on,.int .i64 x.au[k].seq] G10:=(Own.apg Hr hon hseq).mono (B':=wr.heap.size+1) (by simp)
     have T10:Cc w (((((((w10.setCell ⟨wr.heap.size,0,none⟩ (.string x.au[k].aS.name)).setCell ⟨wr.heap.size,1,none⟩ (.slice dZ x.au[k].aS.labels.length eF)).setCell ⟨wr.heap.size,2,none⟩ (.int .i64 x.au[k].aS.cpu)).setCell ⟨wr.heap.size,3,none⟩ (.int .i64 x.au[k].aS.mem)).setCell ⟨wr.heap.size,4,none⟩ (.int .i64 x.au[k].aS.rank)).setCell ⟨wr.heap.size,5,none⟩ (.slice jQ x.au[k].aS.needs.length jR)).setCell ⟨wr.heap.size,6,none⟩ (.slice dH x.au[k].aS.tolerances.length dI)) [.slice bG x.hosts.length bD,.slice (some ⟨b,o,none⟩) x.au.length bW,.int .i64 x.next,.int .i64 x.weights.pack,.int .i64 x.weights.spread,.int .i64 x.weights.soft] [.slice none 0 0,.slice none 0 0,.int .i64 0,.int .i64 0,.int .i64 0,.int .i64 0] [.slice Ah x.hosts.length ch,.slice Av k cv,.int .i64 x.next,.int .i64 x.weights.pack,.int .i64 x.weights.spread,.int .i64 x.weights.soft]:=(((((((BZ.far (c:=wr.heap.size) (by omega) 0 (.string x.au[k].aS.name)).far (c:=wr.heap.size) (by omega) 1 (.slice dZ x.au[k].aS.labels.length eF)).far (c:=wr.heap.size) (by omega) 2 (.int .i64 x.au[k].aS.cpu)).far (c:=wr.heap.size) (by omega) 3 (.int .i64 x.au[k].aS.mem)).far (c:=wr.heap.size) (by omega) 4 (.int .i64 x.au[k].aS.rank)).far (c:=wr.heap.size) (by omega) 5 (.slice jQ x.au[k].aS.needs.length jR)).far (c:=wr.heap.size) (by omega) 6 (.slice dH x.au[k].aS.tolerances.length dI))
     have HB11':=(((((((Cb.put 0 (.string x.au[k].aS.name)).put 1 (.slice dZ x.au[k].aS.labels.length eF)).put 2 (.int .i64 x.au[k].aS.cpu)).put 3 (.int .i64 x.au[k].aS.mem)).put 4 (.int .i64 x.au[k].aS.rank)).put 5 (.slice jQ x.au[k].aS.needs.length jR)).put 6 (.slice dH x.au[k].aS.tolerances.length dI))
     have r11':((((((((w10.setCell ⟨wr.heap.size,0,none⟩ (.string x.au[k].aS.name)).setCell ⟨wr.heap.size,1,none⟩ (.slice dZ x.au[k].aS.labels.length eF)).setCell ⟨wr.heap.size,2,none⟩ (.int .i64 x.au[k].aS.cpu)).setCell ⟨wr.heap.size,3,none⟩ (.int .i64 x.au[k].aS.mem)).setCell ⟨wr.heap.size,4,none⟩ (.int .i64 x.au[k].aS.rank)).setCell ⟨wr.heap.size,5,none⟩ (.slice jQ x.au[k].aS.needs.length jR)).setCell ⟨wr.heap.size,6,none⟩ (.slice dH x.au[k].aS.tolerances.length dI))).ownsRow B4 54 9 (.slice Av k cv) k ds:=(EJ (c:=wr.heap.size) (i:=6) (u:=.slice dH x.au[k].aS.tolerances.length dI) (EJ (c:=wr.heap.size) (i:=5) (u:=.slice jQ x.au[k].aS.needs.length jR) (EJ (c:=wr.heap.size) (i:=4) (u:=.int .i64 x.au[k].aS.rank) (EJ (c:=wr.heap.size) (i:=3) (u:=.int .i64 x.au[k].aS.mem) (EJ (c:=wr.heap.size) (i:=2) (u:=.int .i64 x.au[k].aS.cpu) (EJ (c:=wr.heap.size) (i:=1) (u:=.slice dZ x.au[k].aS.labels.length eF) (EJ (c:=wr.heap.size) (i:=0) (u:=.string x.au[k].aS.name) r10 (fun g hg=>by have:=Y6.out g hg;omega)) (fun g hg=>by have:=Y6.out g hg;omega)) (fun g hg=>by have:=Y6.out g hg;omega)) (fun g hg=>by have:=Y6.out g hg;omega)) (fun g hg=>by have:=Y6.out g hg;omega)) (fun g hg=>by have:=Y6.out g hg;omega)) (fun g hg=>by have:=Y6.out g hg;omega))
     have c11':aY ((((((((w10.setCell ⟨wr.heap.size,0,none⟩ (.string x.au[k].aS.name)).setCell ⟨wr.heap.size,1,none⟩ (.slice dZ x.au[k].aS.labels.length eF)).setCell ⟨wr.heap.size,2,none⟩ (.int .i64 x.au[k].aS.cpu)).setCell ⟨wr.heap.size,3,none⟩ (.int .i64 x.au[k].aS.mem)).setCell ⟨wr.heap.size,4,none⟩ (.int .i64 x.au[k].aS.rank)).setCell ⟨wr.heap.size,5,none⟩ (.slice jQ x.au[k].aS.needs.length jR)).setCell ⟨wr.heap.size,6,none⟩ (.slice dH x.au[k].aS.tolerances.length dI))) B4 (x.au.take k) ds F':=(afs (c:=wr.heap.size) (i:=6) (u:=.slice dH x.au[k].aS.tolerances.length dI) (afs (c:=wr.heap.size) (i:=5) (u:=.slice jQ x.au[k].aS.needs.length jR) (afs (c:=wr.heap.size) (i:=4) (u:=.int .i64 x.au[k].aS.rank) (afs (c:=wr.heap.size) (i:=3) (u:=.int .i64 x.au[k].aS.mem) (afs (c:=wr.heap.size) (i:=2) (u:=.int .i64 x.au[k].aS.cpu) (afs (c:=wr.heap.size) (i:=1) (u:=.slice dZ x.au[k].aS.labels.length eF) (afs (c:=wr.heap.size) (i:=0) (u:=.string x.au[k].aS.name) KH HLF.out) HLF.out) HLF.out) HLF.out) HLF.out) HLF.out) HLF.out)
     have o11':Own ((((((((w10.setCell ⟨wr.heap.size,0,none⟩ (.string x.au[k].aS.name)).setCell ⟨wr.heap.size,1,none⟩ (.slice dZ x.au[k].aS.labels.length eF)).setCell ⟨wr.heap.size,2,none⟩ (.int .i64 x.au[k].aS.cpu)).setCell ⟨wr.heap.size,3,none⟩ (.int .i64 x.au[k].aS.mem)).setCell ⟨wr.heap.size,4,none⟩ (.int .i64 x.au[k].aS.rank)).setCell ⟨wr.heap.size,5,none⟩ (.slice jQ x.au[k].aS.needs.length jR)).setCell ⟨wr.heap.size,6,none⟩ (.slice dH x.au[k].aS.tolerances.length dI))) (w.heap.size+1+1+1) x.hosts [.slice Ah x.hosts.length ch] Gh:=(OC (c:=wr.heap.size) (i:=6) (u:=.slice dH x.au[k].aS.tolerances.length dI) (OC (c:=wr.heap.size) (i:=5) (u:=.slice jQ x.au[k].aS.needs.length jR) (OC (c:=wr.heap.size) (i:=4) (u:=.int .i64 x.au[k].aS.rank) (OC (c:=wr.heap.size) (i:=3) (u:=.int .i64 x.au[k].aS.mem) (OC (c:=wr.heap.size) (i:=2) (u:=.int .i64 x.au[k].aS.cpu) (OC (c:=wr.heap.size) (i:=1) (u:=.slice dZ x.au[k].aS.labels.length eF) (OC (c:=wr.heap.size) (i:=0) (u:=.string x.au[k].aS.name) ael (fun y hy=>by have:=Zn.out y hy;omega)) (fun y hy=>by have:=Zn.out y hy;omega)) (fun y hy=>by have:=Zn.out y hy;omega)) (fun y hy=>by have:=Zn.out y hy;omega)) (fun y hy=>by have:=Zn.out y hy;omega)) (fun y hy=>by have:=Zn.out y hy;omega)) (fun y hy=>by have:=Zn.out y hy;omega))
     have p11':Own ((((((((w10.setCell ⟨wr.heap.size,0,none⟩ (.string x.au[k].aS.name)).setCell ⟨wr.heap.size,1,none⟩ (.slice dZ x.au[k].aS.labels.length eF)).setCell ⟨wr.heap.size,2,none⟩ (.int .i64 x.au[k].aS.cpu)).setCell ⟨wr.heap.size,3,none⟩ (.int .i64 x.au[k].aS.mem)).setCell ⟨wr.heap.size,4,none⟩ (.int .i64 x.au[k].aS.rank)).setCell ⟨wr.heap.size,5,none⟩ (.slice jQ x.au[k].aS.needs.length jR)).setCell ⟨wr.heap.size,6,none⟩ (.slice dH x.au[k].aS.tolerances.length dI))) (wr.heap.size+1) x.au[k] [.string x.au[k].aS.name,.slice dZ x.au[k].aS.labels.length eF,.int .i64 x.au[k].aS.cpu,.int .i64 x.au[k].aS.mem,.int .i64 x.au[k].aS.rank,.slice jQ x.au[k].aS.needs.length jR,.slice dH x.au[k].aS.tolerances.length dI,.string x.au[k].on,.int .i64 x.au[k].seq] G10:=(Own.setCell (p:=⟨wr.heap.size,6,none⟩) (Own.setCell (p:=⟨wr.heap.size,5,none⟩) (Own.setCell (p:=⟨wr.heap.size,4,none⟩) (Own.setCell (p:=⟨wr.heap.size,3,none⟩) (Own.setCell (p:=⟨wr.heap.size,2,none⟩) (Own.setCell (p:=⟨wr.heap.size,1,none⟩) (Own.setCell (p:=⟨wr.heap.size,0,none⟩) hlp atX (.string x.au[k].aS.name)) atX (.slice dZ x.au[k].aS.labels.length eF)) atX (.int .i64 x.au[k].aS.cpu)) atX (.int .i64 x.au[k].aS.mem)) atX (.int .i64 x.au[k].aS.rank)) atX (.slice jQ x.au[k].aS.needs.length jR)) atX (.slice dH x.au[k].aS.tolerances.length dI))
     have z11':((((((((w10.setCell ⟨wr.heap.size,0,none⟩ (.string x.au[k].aS.name)).setCell ⟨wr.heap.size,1,none⟩ (.slice dZ x.au[k].aS.labels.length eF)).setCell ⟨wr.heap.size,2,none⟩ (.int .i64 x.au[k].aS.cpu)).setCell ⟨wr.heap.size,3,none⟩ (.int .i64 x.au[k].aS.mem)).setCell ⟨wr.heap.size,4,none⟩ (.int .i64 x.au[k].aS.rank)).setCell ⟨wr.heap.size,5,none⟩ (.slice jQ x.au[k].aS.needs.length jR)).setCell ⟨wr.heap.size,6,none⟩ (.slice dH x.au[k].aS.tolerances.length dI))).heap.size = w10.heap.size:=by simp [World.setCell]
     have HT:=Lib.hid T10
     have HB:=Lib.hid HB11'
     have aek:=Lib.hid r11'
     have acP:=Lib.hid c11'
     have HOHd:=Lib.hid o11'
     have ajv:=Lib.hid p11'
     have HZ:=Lib.hid z11'
     clear SD Zl hcd hod hrd HBX T10 HB11' r11' c11' o11' p11' z11' KH ael hlp BZ Cb r10 Hr fP
     dsimp only
     iterate 24 (first | go_step | skip)
     refine Qb YH _ _ (by rfl) (((((((w10.setCell ⟨wr.heap.size,0,none⟩ (.string x.au[k].aS.name)).setCell ⟨wr.heap.size,1,none⟩ (.slice dZ x.au[k].aS.labels.length eF)).setCell ⟨wr.heap.size,2,none⟩ (.int .i64 x.au[k].aS.cpu)).setCell ⟨wr.heap.size,3,none⟩ (.int .i64 x.au[k].aS.mem)).setCell ⟨wr.heap.size,4,none⟩ (.int .i64 x.au[k].aS.rank)).setCell ⟨wr.heap.size,5,none⟩ (.slice jQ x.au[k].aS.needs.length jR)).setCell ⟨wr.heap.size,6,none⟩ (.slice dH x.au[k].aS.tolerances.length dI)) _ _ _ _ aek.out (by rfl) [.string x.au[k].aS.name,.slice dZ x.au[k].aS.labels.length eF,.int .i64 x.au[k].aS.cpu,.int .i64 x.au[k].aS.mem,.int .i64 x.au[k].aS.rank,.slice jQ x.au[k].aS.needs.length jR,.slice dH x.au[k].aS.tolerances.length dI,.string x.au[k].on,.int .i64 x.au[k].seq] (by rw [HZ.out];rfl) (by rfl) aub (by omega) (by omega) (by have:=HZ.out;omega) ?_
     intro v4 zu ug DV CO Uf
     obtain ⟨A7,c7,hv6⟩:=mY ug
     subst hv6
     have EW:=HT.out.grown DV (fun q hq=>by have:=(aek.out.lt q hq).1;omega)
     have alX:=HOHd.out.aju DV Zn.out (fun q hq=>(aek.out.lt q hq).1)
     have kx:=EW.ob.cell (i:=1) (u:=.slice Av k cv) rfl
     have fx:=EW.ob.fz 1
     have lx:=EW.ob.lt
     clear k0 k1 k2 k3 k4 k5 k6 k7 k8 kf ko
     simp only [Act.put,pz]
     iterate 12 (first | go_step | skip)
     clear abj q0 q1 q2 q3 q4 q5 q6 q7 q8 kx fx
     iterate 12 (first | go_step | skip)
     obtain ⟨Fb,Jl⟩:=aY.afm (v':=.slice A7 (k+1) c7) aek.out acP.out HNE.out ajv.out (by omega) (fun g hg=>by have:=Y6.out g hg;omega) (fun y hy=>by have:=HLF.out y hy;omega) DV Uf
     rw [← List.take_succ_eq_append_getElem hlt] at Fb
     have r13:=EJ (c:=w.heap.size+1+1) (i:=1) (u:=.slice A7 (k+1) c7) ug (fun g hg=>by have:=(ug.lt g hg).1;omega)
     refine ⟨⟨k+1,_,_,.slice A7 (k+1) c7,by omega,by go_num,r13,Fb.setCell (p:=⟨w.heap.size+1+1,1,none⟩) aun _,Jl,alX.setCell (p:=⟨w.heap.size+1+1,1,none⟩) aun _,EW.put 1 (.slice A7 (k+1) c7),by have:=DV.size;simp only [World.setCell,Array.size_modify] at *;omega⟩,by simp [intOf];omega⟩
    ·have hkl:k = x.au.length:=by omega
     subst hkl
     rw [List.take_length] at hO
     obtain ⟨Ap,cp,Gp,rfl,hOP⟩:=Own.oJ hown hO hne
     have HO:=Lib.hid (Own.alU Zm hOP (Nat.le_refl _) hB34 Zn.out hnext aV aP aW)
     have hbx1:=hS.box.cell (i:=1) (u:=.slice dn x.au.length bW) rfl
     have m0:=hS.ob.cell (i:=0) (u:=.slice Ah x.hosts.length ch) rfl
     have m1:=hS.ob.cell (i:=1) (u:=.slice Ap x.au.length cp) rfl
     have m2:=hS.ob.cell (i:=2) (u:=.int .i64 x.next) rfl
     have m3:=hS.ob.cell (i:=3) (u:=.int .i64 x.weights.pack) rfl
     have m4:=hS.ob.cell (i:=4) (u:=.int .i64 x.weights.spread) rfl
     have m5:=hS.ob.cell (i:=5) (u:=.int .i64 x.weights.soft) rfl
     have r0:=hS.rb.cell (i:=0) (u:=.slice none 0 0) rfl
     have r1:=hS.rb.cell (i:=1) (u:=.slice none 0 0) rfl
     have r2:=hS.rb.cell (i:=2) (u:=.int .i64 0) rfl
     have r3:=hS.rb.cell (i:=3) (u:=.int .i64 0) rfl
     have r4:=hS.rb.cell (i:=4) (u:=.int .i64 0) rfl
     have r5:=hS.rb.cell (i:=5) (u:=.int .i64 0) rfl
     have rl:=hS.rb.lt
     have rf:=hS.rb.fz
     have HS:=Lib.hid hS
     clear hS Zm hOP hown hO hne
     go_wp2_with fail
     try dsimp only
     iterate 60 (first | go_step | skip)
     refine bodyPost_ret (v:=.agg #[.slice Ah x.hosts.length ch,.slice Ap x.au.length cp,.int .i64 x.next,.int .i64 x.weights.pack,.int .i64 x.weights.spread,.int .i64 x.weights.soft]) (by simp [results,Tryz.results16,go_sem, *]) rfl ⟨[.slice Ah x.hosts.length ch,.slice Ap x.au.length cp,.int .i64 x.next,.int .i64 x.weights.pack,.int .i64 x.weights.spread,.int .i64 x.weights.soft],Gh++Gp,rfl,?_,?_⟩
     ·refine Own.mono (B:=w.heap.size+1+1+1) ?_ (by omega)
      exact av6
     ·exact au5
end Go.Proofs.YtnjibbpcafgglaaGreat
