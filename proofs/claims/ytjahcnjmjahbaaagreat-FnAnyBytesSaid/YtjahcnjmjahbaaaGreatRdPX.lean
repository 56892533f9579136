/- Rows of needs and of tolerances. No condition. -/
import Derived.Test.YtjahcnjmjahbaaaGreatFeas
import Derived.Test.YtjahcnjmjahbaaaGreatSameN
namespace Go.Proofs.YtjahcnjmjahbaaaGreat
open Go.ChangeShapes Go.WideShapes Go.ChangeAt Go.RowKit
set_option linter.unusedVariables false
set_option linter.unusedSimpArgs false
set_option maxHeartbeats 4000000
set_option maxRecDepth 100000
theorem aqc:(Tryz.prog.info? 89).map (λi=>(i.zero,i.size,i.bytes)) = some (some (.agg #[.string ⟨#[]⟩,.int .i64 0,.slice none 0 0]),3,48):=by kernel_rfl
theorem ak8:DL Tryz.prog 43 89 (.agg #[.string ⟨#[]⟩,.int .i64 0,.slice none 0 0]) 3 48:=⟨Tryz.underlying43,aqc,rfl,J⟩
theorem asl:(Tryz.prog.info? 91).map (λi=>(i.zero,i.size,i.bytes)) = some (some (.agg #[.string ⟨#[]⟩,.bool false,.string ⟨#[]⟩,.int .i64 0]),4,48):=by kernel_rfl
theorem aoI:DL Tryz.prog 44 91 (.agg #[.string ⟨#[]⟩,.bool false,.string ⟨#[]⟩,.int .i64 0]) 4 48:=⟨Tryz.underlying44,asl,rfl,J⟩
section
variable {α:Type} [bd α]
theorem aY.bE {w w':World} {B b:Nat} {xs:List α} {ds:List Value} {F:List Nat} (h:aY w B xs ds F) (hu:nN [b] w w') (hb:b < B):aY w' B xs ds F :=
 h.keep (λy hy=>hu.block y (h.lt y hy) (by have:=h.base y hy;simp only [List.mem_singleton];omega)) hu.size
theorem SX {w w':World} {B:Nat} {xs:List α} {ds:List Value} (h:aY w B xs ds []) (hs:w.heap.size<=w'.heap.size) {l:α} {cs:List Value} (hr:rd w' l cs []):aY w' B (xs++[l]) (ds++cs) [] :=
 ⟨(h.rd.frame (λb hb=>by cases hb) hs).append (.single hr),List.nodup_nil,(λb hb=>by cases hb),(λb hb=>by cases hb)⟩
theorem aY.Ii {w w':World} {B B5 e size n:Nat} {v v':Value} {xs:List α} {ds us cs:List Value} {F G:List Nat} {x:α} (row:w.ownsRow B e size v n us) (bS:aY w B xs ds F) (bN:∀g,v.ownBlock = some g->g∉F)
 (hx:ai w B5 x cs G) (h5:B<=B5) (fW:∀g,v.ownBlock = some g->g < B5) (hF:∀y∈F,y < B5) (hg:w.grownBy w' v.ownBlock) (cD:v'.ownBlock = v.ownBlock∨v'.ownBlock = some (w.heap.size+1)) :
 aY w' B (xs++[x]) (ds++cs) (F++G)/\∀g,v'.ownBlock = some g->g∉F++G:=by
 have h1:=bS.push hx h5 hF;have ow:∀g,v.ownBlock = some g->g∉F++G:=λg hv hm=>by
  rcases List.mem_append.1 hm with hm | hm
  ·exact bN g hv hm
  ·have:=hx.base g hm;have:=fW g hv;omega
 refine ⟨h1.keep (λy hy=>hg.block y (h1.lt y hy) (λhv=>ow y hv.symm hy)) hg.size,λg hv hm=>?_⟩;rcases cD with cD | cD
 ·exact ow g (cD.symm.trans hv) hm
 ·have h2:=h1.lt g hm;rw [cD] at hv;injection hv with hv;omega
end
theorem adV {P:Program} {t e:TypeId} {z:Value} {size bytes:Nat} (hE:DL P t e z size bytes) {o:Oper} {a:Act} {K:Act->World->Prop} {Q:Exit->Act->World->Prop} (s x:Operand)
 (ho:o.op = .call { callee:=.builtin .append,args:=#[s,x],argTypes:=#[t,t] })
 (w:World) (base:Nat) (v:Value) (n:Nat) (xs:List Value) (ar:w.ownsRow base e size v n xs) (hs:a.eval s = v)
 (cs:List Value) (hx:a.eval x = .slice (some ⟨w.heap.size,0,none⟩) 1 1) (hl:cs.length = size) (h1:∀u∈cs,u.oneCell' = true)
 (hn:n<=2097152) (mS:bytes<=4096) (dl:base<=w.heap.size)
 (h:∀v' w',w'.ownsRow base e size v' (n+1) (xs++cs)->w.grownBy w' v.ownBlock->w.heap.size+1<=w'.heap.size->K (a.put o.dst v') w'):o.wp P a (w.alloc (.cells cs.toArray e)) K Q:=by
 obtain ⟨ht,hi0,kX,eJ⟩:=hE;obtain ⟨i,hi,hz,hsize,hb⟩:=info_parts hi0;have ot:(n+1) * bytes<=2097153 * 4096:=Nat.mul_le_mul J mS;refine wp_append_own (w.alloc (.cells cs.toArray e)) s x t ho base e i z size bytes ht hi hz hsize hb kX eJ v n xs hs (ar.alloc _) ⟨w.heap.size,0,none⟩ 1 1 cs hx J ?_ h1 jp J (by simp;omega) ?_
 ·exact sr
 ·exact MM
theorem apA (w:World) (s:ByteArray) (h:(s.size:Int)<=1048576):rd w s [.string s] []:=rdStr w s J
theorem adT (s:ByteArray) (a:Int) (hs:(s.size:Int)<=1048576):VX (JB s a).1:=by
 refine ⟨qR s a hs,?_,II (λa=>qR s a hs) _ _ _ (λl hl=>by cases hl)⟩;have h:=MQ (dP s) (jC s 4 (fG s (dP s a).2).2).1.toNat [] (jC s 4 (fG s (dP s a).2).2).2;have:=vI s 4 (fG s (dP s a).2).2 (by decide);show ((qX (dP s) (jC s 4 (fG s (dP s a).2).2).1.toNat [] (jC s 4 (fG s (dP s a).2).2).2).1.length:Int)<=1048576;rw [h,List.length_nil];omega
theorem Ye (s:ByteArray) (a:Int × Bool) (hs:(s.size:Int)<=1048576):VX (RN s a).1:=by
 refine ⟨nG s a hs,?_,Gg (λa=>nG s a hs) _ _ _ (λl hl=>by cases hl)⟩;have h:=MN (aD s) (lM s 4 (iZ s (aD s a).2).2).1.toNat [] (lM s 4 (iZ s (aD s a).2).2).2;have:=xX s 4 (iZ s (aD s a).2).2 (by decide);show ((bt (aD s) (lM s 4 (iZ s (aD s a).2).2).1.toNat [] (lM s 4 (iZ s (aD s a).2).2).2).1.length:Int)<=1048576;rw [List.length_nil] at h;omega
theorem ahf (s:ByteArray) (a:Int) (hs:(s.size:Int)<=1048576):VY (Zf s a).1:=⟨qR s _ hs,qR s _ hs⟩
theorem aaW (s:ByteArray) (a:Int × Bool) (hs:(s.size:Int)<=1048576):VY (pv s a).1:=⟨nG s _ hs,nG s _ hs⟩
theorem Yi {P:Program} {t e:TypeId} {z:Value} {size bytes:Nat} (hE:DL P t e z size bytes) {o:Oper} {a:Act} {K:Act->World->Prop} {Q:Exit->Act->World->Prop} (s x:Operand)
 (ho:o.op = .call { callee:=.builtin .append,args:=#[s,x],argTypes:=#[t,t] })
 (w:World) (base:Nat) (v:Value) (n:Nat) (xs:List Value) (ar:w.ownsRow base e size v n xs) (hs:a.eval s = v)
 (cs:List Value) (hx:a.eval x = .slice (some ⟨w.heap.size,0,none⟩) 1 1) (hl:cs.length = size) (h1:∀u∈cs,u.oneCell' = true)
 (hn:n<=2097152) (mS:bytes<=4096) (dl:base<=w.heap.size)
 (h:∀v' w',w'.ownsRow base e size v' (n+1) (xs++cs)->w.grownBy w' v.ownBlock->w.heap.size+1<=w'.heap.size->(v'.ownBlock = v.ownBlock∨v'.ownBlock = some (w.heap.size+1))->K (a.put o.dst v') w'):o.wp P a (w.alloc (.cells cs.toArray e)) K Q:=by
 obtain ⟨ht,hi0,kX,eJ⟩:=hE;obtain ⟨i,hi,hz,hsize,hb⟩:=info_parts hi0;have ot:(n+1) * bytes<=2097153 * 4096:=Nat.mul_le_mul J mS;have gr:∀j u,cs[j]? = some u->(w.alloc (.cells cs.toArray e)).cell? ((⟨w.heap.size,0,none⟩:Addr).add j) = some u:=by exact sr
 obtain ⟨v',w',hr,h2,h3,h4,h5⟩:=run_append_own_at (P:=P) (w.alloc (.cells cs.toArray e)) base t o.type e i z size bytes ht hi hz hsize hb kX eJ v n xs (ar.alloc _) ⟨w.heap.size,0,none⟩ 1 1 cs J gr h1 jp J (by simp;omega);unfold Oper.wp execOp;simp only [ho,resolve,invoke,builtin,Sem.run_bind,Sem.run_pure,Result.andThen_ok,List.map_toArray,List.map_cons,List.map_nil,hs,hx,hr];refine h v' w' h2 ⟨h3.os,h3.tape,h3.output,Nat.le_trans S' h3.size,λk hk bN=>?_⟩ (by have:=h3.size;simpa using this) (by simpa using h5);rw [h3.block k (by simp;omega) bN];exact Below.heap_alloc _ _ _ hk
theorem aqg:(Tryz.prog.info? 38).map (λi=>(i.zero,i.size,i.bytes)) = some (some (.agg #[.string ⟨#[]⟩,.slice none 0 0,.int .i64 0,.int .i64 0,.int .i64 0,.slice none 0 0]),6,88):=by kernel_rfl
theorem apB:DL Tryz.prog 24 38 (.agg #[.string ⟨#[]⟩,.slice none 0 0,.int .i64 0,.int .i64 0,.int .i64 0,.slice none 0 0]) 6 88:=⟨Tryz.underlying24,aqg,rfl,J⟩
theorem amU:(Tryz.prog.info? 48).map (λi=>(i.zero,i.size,i.bytes)) = some (some (.agg #[.string ⟨#[]⟩,.slice none 0 0,.int .i64 0,.int .i64 0,.int .i64 0,.slice none 0 0,.slice none 0 0,.string ⟨#[]⟩,.int .i64 0]),9,136):=by kernel_rfl
theorem ado:DL Tryz.prog 25 48 (.agg #[.string ⟨#[]⟩,.slice none 0 0,.int .i64 0,.int .i64 0,.int .i64 0,.slice none 0 0,.slice none 0 0,.string ⟨#[]⟩,.int .i64 0]) 9 136:=⟨Tryz.underlying25,amU,rfl,J⟩
def Rz:List Value:=[.slice none 0 0,.slice none 0 0,.int .i64 0,.int .i64 0,.int .i64 0,.int .i64 0]
structure Sn (w wk:World) (s:ByteArray) (a:Int) (cs:List Value):Prop where
 bp:zk wk (w.heap.size+1) s a
 box:oG wk (w.heap.size+1+1) cs
 rb:oG wk w.heap.size Rz
 below:Below w.heap.size w wk
section
variable {w wk w':World} {s:ByteArray} {a a':Int} {cs:List Value}
theorem Sn.call (h:Sn w wk s a cs) (hc:zk w' (w.heap.size+1) s a') (hu:nN [w.heap.size+1] wk w'):Sn w w' s a' cs :=
 ⟨hc,h.box.bE hu J,h.rb.bE hu J,h.below.trans (hu.below (λy hy=>by simp only [List.mem_singleton] at hy;omega) On)⟩
theorem Sn.put (h:Sn w wk s a cs) (i:Nat) (u:Value):Sn w (wk.setCell ⟨w.heap.size+1+1,i,none⟩ u) s a (cs.set i u) :=
 ⟨h.bp.br J i u,h.box.put i u,h.rb.br J i u,aC h.below bv u⟩
theorem Sn.ext (h:Sn w wk s a cs) (hb:Below wk.heap.size wk w'):Sn w w' s a cs:=⟨h.bp.ext hb,h.box.ext hb,h.rb.ext hb,ah h.below hb⟩
theorem Sn.br (h:Sn w wk s a cs) {c:Nat} (hc:w.heap.size+1+1 < c) (i:Nat) (u:Value):Sn w (wk.setCell ⟨c,i,none⟩ u) s a cs :=
 ⟨h.bp.br J i u,h.box.br J i u,h.rb.br J i u,aC h.below bv u⟩
theorem Sn.grown {row:Option Nat} (h:Sn w wk s a cs) (hg:wk.grownBy w' row) (hr:∀q,row = some q->w.heap.size+1+1 < q):Sn w w' s a cs :=
 ⟨h.bp.keep (hg.block _ h.bp.lt rq),h.box.keep (hg.block _ h.box.lt rq),h.rb.keep (hg.block _ h.rb.lt rq),
  ⟨hg.os.trans h.below.os,hg.tape.trans h.below.tape,hg.output.trans h.below.output,Nat.le_trans h.below.size hg.size,λi hi=>(hg.block i On rq).trans (h.below.block i hi)⟩⟩
end
theorem amP (s:ByteArray) (a:Int) (hs:(s.size:Int)<=1048576):U6 (Ad s a).1:=by
 refine ⟨qR s a hs,?_,NM s _ hs,?_,II (λa=>⟨qR s _ hs,qR s _ hs⟩) _ _ _ (λl hl=>by cases hl)⟩
 ·have:=Kw s (dP s a).2;show ((iF s (dP s a).2).1.length:Int)<=1048576;omega
 ·have h:=MQ (Gs s) (jC s 4 (fG s (fG s (fG s (iF s (dP s a).2).2).2).2).2).1.toNat [] (jC s 4 (fG s (fG s (fG s (iF s (dP s a).2).2).2).2).2).2;have:=vI s 4 (fG s (fG s (fG s (iF s (dP s a).2).2).2).2).2 (by decide);show ((qX (Gs s) (jC s 4 (fG s (fG s (fG s (iF s (dP s a).2).2).2).2).2).1.toNat [] (jC s 4 (fG s (fG s (fG s (iF s (dP s a).2).2).2).2).2).2).1.length:Int)<=1048576;rw [h,List.length_nil];omega
theorem QB {α:Type} (r:Int->α × Int) (s:ByteArray) (a:Int):(xC r s 4 a).1.length<=4:=by
 have h:=MQ r (jC s 4 a).1.toNat [] (jC s 4 a).2;have:=vI s 4 a (by decide);unfold xC;rw [h,List.length_nil];omega
theorem UM {α:Type} {r:Int->α × Int} {p:α->Prop} (hr:∀a,p (r a).1) (s:ByteArray) (most a:Int):∀x∈(xC r s most a).1,p x:=II hr _ _ _ (λl hl=>by cases hl)
theorem aoL (s:ByteArray) (a:Int) (hs:(s.size:Int)<=1048576):Xl (Dl s a).1:=by
 have hl:=Kw s (dP s a).2;unfold Dl Ag Ll;dsimp only;refine ⟨qR s a hs,by dsimp only;omega,NM s _ hs,?_,UM (λa=>adT s a hs) s _ _,?_,UM (λa=>ahf s a hs) s _ _⟩
 ·have:=QB (JB s) s (fG s (fG s (fG s (iF s (dP s a).2).2).2).2).2;dsimp only;omega
 ·have:=QB (Zf s) s (xC (JB s) s 4 (fG s (fG s (fG s (iF s (dP s a).2).2).2).2).2).2;dsimp only;omega
theorem ai.Zg {α:Type} [bd α] {w w':World} {B b:Nat} {x:α} {cs:List Value} {F:List Nat} (h:ai w B x cs F) (hu:nN [b] w w') (hb:b < B):ai w' B x cs F :=
 h.keep (λy hy=>hu.block y (h.lt y hy) (by have:=h.base y hy;simp only [List.mem_singleton];omega)) hu.size
theorem ai.aoO {α:Type} [bd α] {w w':World} {B B2:Nat} {x:α} {cs:List Value} {F:List Nat} {row:Option Nat} (h:ai w B x cs F) (hg:w.grownBy w' row) (hF:∀y∈F,y < B2) (hr:∀q,row = some q->B2<=q):ai w' B x cs F :=
 h.keep (λy hy=>hg.block y (h.lt y hy) awM) hg.size
theorem ai.oV {w:World} {B:Nat} {p:nI} {nm:ByteArray} {n:Int} {ps:List Value} {G:List Nat} (h:ai w B p ps G) (h1:(nm.size:Int)<=1048576) (h2:aR n):ai w B (⟨p,nm,n⟩:ag) (ps++[.string nm,.int .i64 n]) G:=by
 refine ai.up (B':=B) (λx:ag=>(x.aS,x.on,x.seq)) ?_ (Nat.le_refl _);have h3:ai w (B+w.heap.size) (nm,n) ([.string nm]++[.int .i64 n]) []:=ai.cons (rdStr w nm J) (ai.flat (jL w n h2));have h4:=ai.pair h h3 J (λb hb=>by have:=h.lt b hb;omega);simpa using h4
theorem ai.iI {w:World} {B B3 B4:Nat} {H:List az} {P:List ag} {n p q f:Int} {Ah Ap:Option Addr} {ch cp:Nat} {Gh Gp:List Nat} (h:ai w B3 H [.slice Ah H.length ch] Gh) (k:ai w B4 P [.slice Ap P.length cp] Gp) (hB:B<=B3) (lP:B3<=B4) (hG:∀y∈Gh,y < B4) (hn:aR n) (hp:aR p) (hq:aR q) (hf:aR f) :
 ai w B (⟨H,P,n,⟨p,q,f⟩⟩:aU) [.slice Ah H.length ch,.slice Ap P.length cp,.int .i64 n,.int .i64 p,.int .i64 q,.int .i64 f] (Gh++Gp):=by
 refine ai.up (B':=B3) (λx:aU=>(x.aa,x.O,x.next,x.weights)) ?_ hB;have h5:ai w (B4+w.heap.size) (⟨p,q,f⟩:rZ) ([.int .i64 p]++([.int .i64 q]++[.int .i64 f])) []:=by exact M2
 have h6:=ai.cons (jL w n hn) h5;have h7:=ai.pair h (ai.pair k h6 J (λb hb=>by have:=k.lt b hb;omega)) lP hG;simpa using h7
theorem ai.apD {α:Type} [bd α] (w:World) (B:Nat):ai w B ([]:List α) [.slice none ([]:List α).length 0] []:=⟨Sl.nil w none 0 (Nat.zero_le _),List.nodup_nil,(λb hb=>by cases hb),(λb hb=>by cases hb)⟩
theorem ai.ZW (w:World) (B:Nat):ai w B nX Rz []:=by
 have h:=ai.iI (w:=w) (B:=B) (B3:=B) (B4:=B) (n:=0) (p:=0) (q:=0) (f:=0) (ai.apD (α:=az) w B) (ai.apD (α:=ag) w B) (Nat.le_refl _) (Nat.le_refl _) (λb hb=>by cases hb) ⟨by decide,by decide⟩ ⟨by decide,by decide⟩ ⟨by decide,by decide⟩ ⟨by decide,by decide⟩;exact h
theorem TS {hs:List az} (h:∀y∈hs,U6 y) (k:Int):((Bl hs k).size:Int)<=1048576:=by
 unfold Bl;split
 ·split
  ·rename_i x hx;exact (h x (List.mem_of_getElem? hx)).ns
  ·decide
 ·decide
def AH (x:aU) (p:nI) (a b:ByteArray):List Int:=[Lib.compareInt (uH b x p) (uH a x p),Lib.compareBytes a.data.toList b.data.toList]
def CV (x:aU) (p:nI) (a b:ByteArray):Int:=Qa (AH x p a b)
def Jh (x:aU) (p:nI):List ByteArray:=bB (kS (CV x p)) [] (Ar x p x.aa)
theorem ak2 (x:aU) (p:nI) (a b:ByteArray):kS (CV x p) a b = true↔uH b x p < uH a x p∨(uH a x p = uH b x p/\Op.bytesLess a.data.toList b.data.toList = true):=by
 have e:=Wx a.data.toList b.data.toList;unfold kS CV AH Qa Qa;rw [decide_eq_true_eq,<- e];unfold Lib.compareInt;by_cases h1:uH b x p < uH a x p
 ·simp [h1]
 ·by_cases h2:uH a x p < uH b x p
  ·simp [h1,h2];omega
  ·have h3:uH a x p = uH b x p:=J;simp [h3,Qa];by_cases h4:Lib.compareBytes a.data.toList b.data.toList = 0
   ·simp [h4]
   ·simp [h4]
theorem Zx {β:Type} {lt:β->β->Bool} {z:β} : ∀(ys acc:List β),z∈bB lt acc ys->z∈acc∨z∈ys
 | [],acc,h=>.inl h
 | y :: ys,acc,h=>by
   rw [bB] at h;rcases Zx ys _ h with h | h
   ·exact Nf
   ·exact .inr (List.mem_cons_of_mem _ h)
theorem VZ (w:World):∀ys:List ByteArray,(∀y∈ys,y.size<=maxLen)->jo w ys (ys.map Value.string) []
 | [],_=>⟨rfl,rfl⟩
 | y :: ys,h=>⟨[.string y],ys.map Value.string,[],[],rfl,rfl,⟨rfl,rfl,h y (List.mem_cons_self ..)⟩,VZ w ys λz hz=>h z (List.mem_cons_of_mem _ hz)⟩
theorem ML {w:World} : ∀(ys:List ByteArray) (ds:List Value) (G:List Nat),jo w ys ds G->ds = ys.map Value.string/\G = []/\∀y∈ys,y.size<=maxLen
 | [],ds,G,h=>⟨h.1,h.2,λ_ h=>by cases h⟩
 | y :: ys,ds,G,h=>by
   obtain ⟨c1,c2,F1,F2,rfl,rfl,h1,h2⟩:=h;obtain ⟨e1,e2,h1⟩:=h1;subst e1 e2;obtain ⟨e3,e4,h3⟩:=ML ys c2 F2 h2;subst e3 e4;refine ⟨rfl,rfl,λz hz=>?_⟩;rcases List.mem_cons.1 hz with rfl | hz
   ·exact h1
   ·exact h3 z hz
theorem ac6 (x:aU) (p:nI):(Jh x p).length = (Ar x p x.aa).length:=by unfold Jh;rw [rD];simp
def fj (x y:ao):Int:=Lib.compareBytes x.key.data.toList y.key.data.toList
def BG (xs:List ao):List ao × Bool:=if sD (bB (kS fj) [] xs) = true then (bB (kS fj) [] xs,true) else (xs,false)
theorem ayQ {xs:List ao} (h:sD (bB (kS fj) [] xs) = true):BG xs = (bB (kS fj) [] xs,true):=if_pos h
theorem aJ7 {xs:List ao} (h:sD (bB (kS fj) [] xs) = false):BG xs = (xs,false):=if_neg (by rw [h];simp)
theorem aA2 {lt:ao->ao->Bool} {z:ao} : ∀(ys acc:List ao),z∈bB lt acc ys->z∈acc∨z∈ys
 | [],acc,h=>.inl h
 | y :: ys,acc,h=>by
   rw [bB] at h;rcases aA2 ys _ h with h | h
   ·exact Nf
   ·exact .inr (List.mem_cons_of_mem _ h)
theorem aJ8 {xs:List ao} {z:ao} (h:z∈bB (kS fj) [] xs):z∈xs:=by
 rcases aA2 xs [] h with h | h
 ·cases h
 ·exact h
theorem aw0 (xs:List ao):(bB (kS fj) [] xs).length = xs.length:=by rw [rD];simp
theorem aCI {lt:ao->ao->Bool} (f:ao->Nat) (y:ao):∀r:List ao,((OM lt y r).map f).sum = f y+(r.map f).sum
 | []=>by simp [OM]
 | x :: r=>by
   have:=aCI (lt:=lt) f y r;unfold OM;split <;> simp only [List.map_cons,List.sum_cons] <;> omega
theorem aA3 {lt:ao->ao->Bool} (f:ao->Nat):∀xs acc:List ao,((bB lt acc xs).map f).sum = (acc.map f).sum+(xs.map f).sum
 | [],_=>by simp [bB]
 | x :: xs,acc=>by
   have h1:=aA3 (lt:=lt) f xs (OM lt x acc);have h2:=aCI (lt:=lt) f x acc;rw [bB,h1,h2];exact sb
theorem aJZ (xs:List ao):kL ao.wt (BG xs).1 = kL ao.wt xs:=by
 have h:=aA3 (lt:=kS fj) ao.wt xs [];have hl:=aw0 xs;unfold BG kL;split
 ·dsimp only;simp only [List.map_nil,List.sum_nil] at h;omega
 ·rfl
def Fq (xs:List iU):List iU × Bool:=if xs.length<=40/\La (ei qo [] xs) = true then (ei qo [] xs,true) else (xs,false)
theorem ayj {xs:List iU} (h:¬xs.length<=40):Fq xs = (xs,false):=if_neg λhh=>h hh.1
theorem ayT {xs:List iU} (h:xs.length<=40) (h2:La (ei qo [] xs) = true):Fq xs = (ei qo [] xs,true):=if_pos ⟨h,h2⟩
theorem az7 {xs:List iU} (h2:La (ei qo [] xs) = false):Fq xs = (xs,false):=if_neg λhh=>by rw [h2] at hh;cases hh.2
theorem aJk {xs:List iU} {z:iU} (h:z∈ei qo [] xs):z∈xs:=by
 rcases (Ju WZ z xs []).1 h with h | h
 ·cases h
 ·exact h
theorem azM (xs:List iU):kL iU.wt (Fq xs).1<=kL iU.wt xs:=by
 have h:=Jx iU.wt qo xs [];have hl:=Bu qo xs [];unfold Fq kL;split
 ·dsimp only;exact DG
 ·exact Nat.le_refl _
def kz (xs:List bH):List bH × Bool:=if xs.length<=40/\Ya (ei vJ [] xs) = true then (ei vJ [] xs,true) else (xs,false)
theorem az8 {xs:List bH} (h:¬xs.length<=40):kz xs = (xs,false):=if_neg λhh=>h hh.1
theorem aAx {xs:List bH} (h:xs.length<=40) (h2:Ya (ei vJ [] xs) = true):kz xs = (ei vJ [] xs,true):=if_pos ⟨h,h2⟩
theorem aBF {xs:List bH} (h2:Ya (ei vJ [] xs) = false):kz xs = (xs,false):=if_neg λhh=>by rw [h2] at hh;cases hh.2
theorem aIF {xs:List bH} {z:bH} (h:z∈ei vJ [] xs):z∈xs:=by
 rcases (Ju W0 z xs []).1 h with h | h
 ·cases h
 ·exact h
theorem aBz (xs:List bH):kL bH.wt (kz xs).1<=kL bH.wt xs:=by
 have h:=Jx bH.wt vJ xs [];have hl:=Bu vJ xs [];unfold kz kL;split
 ·dsimp only;exact DG
 ·exact Nat.le_refl _
def oB (x:aE):aE:=⟨x.key,x.op,gj x.values⟩
def EQ (xs:List aE):Bool:=xs.all λx=>decide (x.values.length<=40)
def kA (xs:List aE):List aE:=ei nD [] (xs.map oB)
def ke (xs:List aE):List aE × Bool:=if xs.length<=40/\EQ xs = true/\kw (kA xs) = true then (kA xs,true) else (xs,false)
theorem ayR {xs:List aE} (h:¬xs.length<=40):ke xs = (xs,false):=if_neg λhh=>h hh.1
theorem ayS {xs:List aE} (h:EQ xs = false):ke xs = (xs,false):=if_neg λhh=>by rw [h] at hh;cases hh.2.1
theorem az3 {xs:List aE} (h:xs.length<=40) (h1:EQ xs = true) (h2:kw (kA xs) = true):ke xs = (kA xs,true):=if_pos ⟨h,h1,h2⟩
theorem aAv {xs:List aE} (h2:kw (kA xs) = false):ke xs = (xs,false):=if_neg λhh=>by rw [h2] at hh;cases hh.2.2
theorem az4 {xs:List aE} {z:aE} (h:z∈kA xs):∃x∈xs,z = oB x:=by
 rcases (Ju (lt:=nD) aDI z (xs.map oB) []).1 h with h | h
 ·cases h
 ·obtain ⟨x,hx,rfl⟩:=List.mem_map.1 h;exact ⟨x,hx,rfl⟩
theorem aDu (xs:List aE):(kA xs).length<=xs.length:=by have:=Bu nD (xs.map oB) [];unfold kA;simpa using this
theorem aF2 (x:aE):(oB x).wt<=x.wt:=by have:=aB3 x.values;unfold oB aE.wt It;dsimp only;omega
theorem az5 {α:Type} {f:α->Nat} {g:α->α} (h:∀x,f (g x)<=f x):∀xs:List α,((xs.map g).map f).sum<=(xs.map f).sum
 | []=>Nat.le_refl _
 | x :: xs=>by have h1:=h x;have h2:=az5 h xs;simp only [List.map_cons,List.sum_cons];omega
theorem aAu (xs:List aE):kL aE.wt (ke xs).1<=kL aE.wt xs:=by
 have h:=Jx aE.wt nD (xs.map oB) [];have hl:=Bu nD (xs.map oB) [];have hm:=az5 aF2 xs;unfold ke kL;split
 ·dsimp only;simp only [List.map_nil,List.sum_nil,List.length_nil,List.length_map] at h hl;unfold kA;omega
 ·exact Nat.le_refl _
theorem aEp {xs:List aE} (h:EQ xs = true) {x:aE} (hx:x∈xs):x.values.length<=40:=by
 have:=List.all_eq_true.1 h x hx;simpa using this
theorem aDv {xs:List aE} {x:aE} (hx:x∈xs) (h:¬x.values.length<=40):EQ xs = false:=by
 cases hh:EQ xs with
 | false=>rfl
 | true=>exact absurd (aEp hh hx) h
theorem aDw {xs:List aE} (h:∀j (hj:j < xs.length),xs[j].values.length<=40):EQ xs = true:=by
 refine List.all_eq_true.2 λx hx=>?_;obtain ⟨j,hj,rfl⟩:=List.getElem_of_mem hx;simpa using h j hj
theorem Yr {x:aE} (h:x.wt<=1048576):((oB x).key.size:Int)<=1048576/\((oB x).values.length:Int)<=1048576/\(∀v∈(oB x).values,(v.size:Int)<=1048576):=by
 have h2:aE.wt x = x.key.size+kL ByteArray.size x.values:=rfl;have h3:=gJ ByteArray.size x.values;have h4:=aAP x.values;refine ⟨?_,?_,λv hv=>?_⟩
 ·show (x.key.size:Int)<=_;omega
 ·show ((gj x.values).length:Int)<=_;omega
 ·have:=Bq (f:=ByteArray.size) (aA4 hv);omega
theorem apC (s:ByteArray) (b:Nat) (st:Int × Bool) (hs:List az) (Ah:Option Addr) (ch:Nat) (Fh:List Nat) (A1:Option Addr) (l1 c1:Nat) (z2 z3 z4 z5:Int) (w:World) (h:yM w b s st) (eJ:(s.size:Int)<=1048576) (hH:Sl w hs Ah ch Fh) (hl:(hs.length:Int)<=1048576) (hb:∀y∈Fh,y≠b) :
 Calls Tryz.prog 50 #[.pointer (some ⟨b,0,none⟩),.agg ([.slice Ah hs.length ch,.slice A1 l1 c1,.int .i64 z2,.int .i64 z3,.int .i64 z4,.int .i64 z5]:List Value).toArray] w λe w'=>e = .returned (.string (Bl hs (lM s hs.length st).1))/\yM w' b s (lM s hs.length st).2/\nN [b] w w':=by
 have am:=h.lt;have HM:=I (λwq hq=>Gi s b hs.length st wq hq eJ);have ue:=xX s hs.length st J;obtain ⟨q,eq⟩:∃q,lM s hs.length st = q:=⟨_,rfl⟩;rw [eq] at HM ue |-;clear eq;obtain ⟨k,st2⟩:=q;dsimp only at ue HM |-;have HS:=I h;clear h;by_cases hk:k = 0
 ·subst hk;have HF:=I (ZV (hs:=hs) (k:=0) J);go_enter Tryz.func50,Tryz.ntmps50;go_wp2_with fail
  refine (HM.out _ (HS.out.ext bc)).mono ?_;rintro e w2 ⟨rfl,dj,ca⟩;go_wp2;go_ret
  exact ⟨by rw [HF.out];rfl,dj,(nN.lq [b] bc).trans ca⟩
 ·obtain ⟨j,rfl⟩:∃j:Nat,k = (j:Int)+1:=⟨(k - 1).toNat,J⟩;have hj:j < hs.length:=by omega
  have HF:=I (Vc hj rfl);have hkd:(((j:Int)+1) == 0) = false:=by simp;omega
  obtain ⟨bh,o,ck,Fk,rfl,o9,hbs,hr,bm,hc⟩:=Sl.get (α:=az) (A:=Ah) (c:=ch) hH hj;obtain ⟨jM,jO,sN,jE,jF,sO,aq,su,zM,qY,Gt,Gw,xg,qA⟩:=iy hr;subst aq;have q0:w.cell? ⟨bh,o+j * 6,none⟩ = some (.string hs[j].name):=by exact hc 0 _ rfl
  clear hc su hr;have yl:=oG.new w [.slice (some ⟨bh,o,none⟩) hs.length ch,.slice A1 l1 c1,.int .i64 z2,.int .i64 z3,.int .i64 z4,.int .i64 z5] 29;go_enter Tryz.func50,Tryz.ntmps50;go_wp2_with fail
  refine (HM.out _ (HS.out.ext bc)).mono ?_;rintro e w2 ⟨rfl,dj,ca⟩;have KC:=yl.bE ca J;have c0:=KC.cell (i:=0) (u:=.slice (some ⟨bh,o,none⟩) hs.length ch) rfl;have ot:=hb bh o9;have q0':=(World.cell?_of_block (a:=⟨bh,o+j * 6,none⟩) (ca.block bh (by simp;omega) (by simpa using ot))).trans ((World.cell?_of_block (heap_alloc_old w _ hbs)).trans q0);clear KC yl q0 hb;go_wp2;go_ret
  exact ⟨by rw [HF.out];rfl,dj,(nN.lq [b] bc).trans ca⟩
theorem aoK (s:ByteArray) (b:Nat) (a:Int) (hs:List az) (Ah:Option Addr) (ch:Nat) (Fh:List Nat) (A1:Option Addr) (l1 c1:Nat) (z2 z3 z4 z5:Int) (p:nI) (ps:List Value) (G:List Nat) (w:World) (h:zk w b s a) (eJ:(s.size:Int)<=1048576) (hH:Sl w hs Ah ch Fh) (hl:(hs.length:Int)<=1048576) (hb:∀y∈Fh,y≠b) (hp:rd w p ps G) :
 Calls Tryz.prog 34 #[.pointer (some ⟨b,0,none⟩),.agg ([.slice Ah hs.length ch,.slice A1 l1 c1,.int .i64 z2,.int .i64 z3,.int .i64 z4,.int .i64 z5]:List Value).toArray,.agg ps.toArray] w λe w'=>e = .returned (.agg (ps++[Value.string (Bl hs (jC s hs.length a).1),Value.int .i64 (fG s (jC s hs.length a).2).1]).toArray)/\zk w' b s (fG s (jC s hs.length a).2).2/\nN [b] w w':=by
 have am:=h.lt;have HM:=I (λwq hq=>cI s b a hs.length wq hq eJ J);have HN:=I (λwq hq=>FT s b (jC s hs.length a).2 wq hq eJ);have ue:=vI s hs.length a J;have Vi:=yt s (jC s hs.length a).2 eJ;obtain ⟨q,eq⟩:∃q,jC s hs.length a = q:=⟨_,rfl⟩;rw [eq] at HM HN ue Vi |-;clear eq;obtain ⟨k,a2⟩:=q;dsimp only at ue HM HN Vi |-;obtain ⟨n,en⟩:∃n,fG s a2 = n:=⟨_,rfl⟩;rw [en] at HN Vi |-;clear en;obtain ⟨n1,n2⟩:=n;dsimp only at HN Vi |-;obtain ⟨bY,bZ,iq,eU,eX,jV,bg,bn,dK,aq,hG,jW,dA,kQ,lg,lG,iO,bK⟩:=dL hp;subst aq;clear hp hG;have HS:=I h;clear h;by_cases hk:0 < k
 ·obtain ⟨j,rfl⟩:∃j:Nat,k = (j:Int)+1:=⟨(k - 1).toNat,J⟩;have hj:j < hs.length:=by omega
  have HF:=I (Vc hj rfl);obtain ⟨bh,o,ck,Fk,rfl,o9,hbs,hr,bm,hc⟩:=Sl.get (α:=az) (A:=Ah) (c:=ch) hH hj;obtain ⟨jM,jO,sN,jE,jF,sO,aq,su,zM,qY,Gt,Gw,xg,qA⟩:=iy hr;subst aq;have q0:w.cell? ⟨bh,o+j * 6,none⟩ = some (.string hs[j].name):=by exact hc 0 _ rfl
  clear hc su hr;have yl:=oG.new w [.slice (some ⟨bh,o,none⟩) hs.length ch,.slice A1 l1 c1,.int .i64 z2,.int .i64 z3,.int .i64 z4,.int .i64 z5] 29;have lQ:=oG.new ((w.alloc (.cells ([.slice (some ⟨bh,o,none⟩) hs.length ch,.slice A1 l1 c1,.int .i64 z2,.int .i64 z3,.int .i64 z4,.int .i64 z5]:List Value).toArray 29)).alloc (.cells ([.string p.name,.slice bY p.labels.length bZ,.int .i64 p.aw,.int .i64 p.mem,.int .i64 p.av,.slice eU p.af.length eX,.slice bg p.ae.length bn]:List Value).toArray 46)) [.string ⟨#[]⟩,.slice none 0 0,.int .i64 0,.int .i64 0,.int .i64 0,.slice none 0 0,.slice none 0 0,.string ⟨#[]⟩,.int .i64 0] 48;have GF:=oG.new (((w.alloc (.cells ([.slice (some ⟨bh,o,none⟩) hs.length ch,.slice A1 l1 c1,.int .i64 z2,.int .i64 z3,.int .i64 z4,.int .i64 z5]:List Value).toArray 29)).alloc (.cells ([.string p.name,.slice bY p.labels.length bZ,.int .i64 p.aw,.int .i64 p.mem,.int .i64 p.av,.slice eU p.af.length eX,.slice bg p.ae.length bn]:List Value).toArray 46)).alloc (.cells ([.string ⟨#[]⟩,.slice none 0 0,.int .i64 0,.int .i64 0,.int .i64 0,.slice none 0 0,.slice none 0 0,.string ⟨#[]⟩,.int .i64 0]:List Value).toArray 48)) [.string p.name,.slice bY p.labels.length bZ,.int .i64 p.aw,.int .i64 p.mem,.int .i64 p.av,.slice eU p.af.length eX,.slice bg p.ae.length bn,.string ⟨#[]⟩,.int .i64 0] 48;simp only [World.size_alloc] at lQ GF;go_enter Tryz.func34,Tryz.ntmps34;go_wp2_with fail
  refine (HM.out _ (HS.out.ext bc)).mono ?_;rintro e w1 ⟨rfl,fY,hu1⟩;have RA:=(lQ.ext bc).bE hu1 J;have ui:=GF.bE hu1 J;have ol:=ui.lt;have of:=ui.fz 7;have o7:=ui.cell (i:=7) (u:=.string ⟨#[]⟩) rfl;have KC1:=(yl.ext bc).bE hu1 J;have c0:=KC1.cell (i:=0) (u:=.slice (some ⟨bh,o,none⟩) hs.length ch) rfl;have ot:=hb bh o9;have q0':=(World.cell?_of_block (a:=⟨bh,o+j * 6,none⟩) (hu1.block bh (by simp;omega) (by simpa using ot))).trans ((World.cell?_of_block ((show Below w.heap.size w _ from bc).block bh hbs)).trans q0);clear KC1 yl q0;have RB:=ui.put 7 (.string hs[j].name);have AN:=RA.br (c:=w.heap.size+1+1+1) J 7 (.string hs[j].name);have dj:=fY.br (c:=w.heap.size+1+1+1) J 7 (.string hs[j].name);have l6:=((nN.lq [b] (show Below w.heap.size w _ from bc)).trans hu1).xZ (p:=⟨w.heap.size+1+1+1,7,none⟩) bv (.string hs[j].name);clear lQ GF ui RA fY hb;go_wp2_with fail
  refine (HN.out _ dj).mono ?_;rintro e w3 ⟨rfl,TR,bJ⟩;have zb:=AN.bE bJ J;have ze:=RB.bE bJ J;have HU:=I (l6.trans bJ);obtain ⟨k0,k1,k2,k3,k4,k5,k6,k7,k8⟩:=Ea ze;have kf:=ze.fz;have kl:=ze.lt;obtain ⟨r0,r1,r2,r3,r4,r5,r6,r7,r8⟩:=Ea zb;have rf:=zb.fz;have rl:=zb.lt;have HI3:=I TR;clear AN RB dj l6 hu1 bJ zb ze TR;dsimp only;iterate 80 (first | go_step | skip)
  refine bodyPost_ret (v:=.agg #[.string p.name,.slice bY p.labels.length bZ,.int .i64 p.aw,.int .i64 p.mem,.int .i64 p.av,.slice eU p.af.length eX,.slice bg p.ae.length bn,.string hs[j].name,.int .i64 n1]) (by simp [results,Tryz.results34,go_sem, *]) rfl ?_;exact Mq
 ·obtain rfl:k = 0:=by omega
  have HF:=I (ZV (hs:=hs) (k:=0) J);have yl:=oG.new w [.slice Ah hs.length ch,.slice A1 l1 c1,.int .i64 z2,.int .i64 z3,.int .i64 z4,.int .i64 z5] 29;have lQ:=oG.new ((w.alloc (.cells ([.slice Ah hs.length ch,.slice A1 l1 c1,.int .i64 z2,.int .i64 z3,.int .i64 z4,.int .i64 z5]:List Value).toArray 29)).alloc (.cells ([.string p.name,.slice bY p.labels.length bZ,.int .i64 p.aw,.int .i64 p.mem,.int .i64 p.av,.slice eU p.af.length eX,.slice bg p.ae.length bn]:List Value).toArray 46)) [.string ⟨#[]⟩,.slice none 0 0,.int .i64 0,.int .i64 0,.int .i64 0,.slice none 0 0,.slice none 0 0,.string ⟨#[]⟩,.int .i64 0] 48;have GF:=oG.new (((w.alloc (.cells ([.slice Ah hs.length ch,.slice A1 l1 c1,.int .i64 z2,.int .i64 z3,.int .i64 z4,.int .i64 z5]:List Value).toArray 29)).alloc (.cells ([.string p.name,.slice bY p.labels.length bZ,.int .i64 p.aw,.int .i64 p.mem,.int .i64 p.av,.slice eU p.af.length eX,.slice bg p.ae.length bn]:List Value).toArray 46)).alloc (.cells ([.string ⟨#[]⟩,.slice none 0 0,.int .i64 0,.int .i64 0,.int .i64 0,.slice none 0 0,.slice none 0 0,.string ⟨#[]⟩,.int .i64 0]:List Value).toArray 48)) [.string p.name,.slice bY p.labels.length bZ,.int .i64 p.aw,.int .i64 p.mem,.int .i64 p.av,.slice eU p.af.length eX,.slice bg p.ae.length bn,.string ⟨#[]⟩,.int .i64 0] 48;simp only [World.size_alloc] at lQ GF;go_enter Tryz.func34,Tryz.ntmps34;go_wp2_with fail
  refine (HM.out _ (HS.out.ext bc)).mono ?_;rintro e w1 ⟨rfl,fY,hu1⟩;have RA:=(lQ.ext bc).bE hu1 J;have ui:=GF.bE hu1 J;have ol:=ui.lt;have of:=ui.fz 7;have o7:=ui.cell (i:=7) (u:=.string ⟨#[]⟩) rfl;have RB:=ui;have AN:=RA;have dj:=fY;have l6:=(nN.lq [b] (show Below w.heap.size w _ from bc)).trans hu1;clear lQ GF ui RA fY hb;go_wp2_with fail
  refine (HN.out _ dj).mono ?_;rintro e w3 ⟨rfl,TR,bJ⟩;have zb:=AN.bE bJ J;have ze:=RB.bE bJ J;have HU:=I (l6.trans bJ);obtain ⟨k0,k1,k2,k3,k4,k5,k6,k7,k8⟩:=Ea ze;have kf:=ze.fz;have kl:=ze.lt;obtain ⟨r0,r1,r2,r3,r4,r5,r6,r7,r8⟩:=Ea zb;have rf:=zb.fz;have rl:=zb.lt;have HI3:=I TR;clear AN RB dj l6 hu1 bJ zb ze TR;dsimp only;iterate 80 (first | go_step | skip)
  refine bodyPost_ret (v:=.agg #[.string p.name,.slice bY p.labels.length bZ,.int .i64 p.aw,.int .i64 p.mem,.int .i64 p.av,.slice eU p.af.length eX,.slice bg p.ae.length bn,.string ⟨#[]⟩,.int .i64 n1]) (by simp [results,Tryz.results34,go_sem, *]) rfl ?_;exact Mq
end Go.Proofs.YtjahcnjmjahbaaaGreat
