/- Rows of needs and of tolerances. No condition. -/
import Derived.Test.YtjahcnjmjahbaaaGreatClusterI
namespace Go.Proofs.YtjahcnjmjahbaaaGreat
open Go.ChangeShapes Go.WideShapes Go.ChangeAt Go.RowKit
set_option linter.unusedVariables false
set_option linter.unusedSimpArgs false
theorem aqc:(Tryz.prog.info? 89).map (fun i=>(i.zero,i.size,i.bytes)) = some (some (.agg #[.string ⟨#[]⟩,.int .i64 0,.slice none 0 0]),3,48):=by kernel_rfl
theorem ak8:DL Tryz.prog 43 89 (.agg #[.string ⟨#[]⟩,.int .i64 0,.slice none 0 0]) 3 48:=⟨Tryz.underlying43,aqc,rfl,J⟩
theorem asl:(Tryz.prog.info? 91).map (fun i=>(i.zero,i.size,i.bytes)) = some (some (.agg #[.string ⟨#[]⟩,.bool false,.string ⟨#[]⟩,.int .i64 0]),4,48):=by kernel_rfl
theorem aoI:DL Tryz.prog 44 91 (.agg #[.string ⟨#[]⟩,.bool false,.string ⟨#[]⟩,.int .i64 0]) 4 48:=⟨Tryz.underlying44,asl,rfl,J⟩
section
variable {α:Type} [bd α]
theorem aY.bX {w w':World} {B b:Nat} {xs:List α} {ds:List Value} {F:List Nat} (h:aY w B xs ds F) (hu:nN [b] w w') (hb:b < B):aY w' B xs ds F :=
 h.br (fun y hy=>hu.block y (h.lt y hy) (by have:=h.base y hy;simp only [List.mem_singleton];omega)) hu.size
theorem acg {w w':World} {B:Nat} {xs:List α} {ds:List Value} (h:aY w B xs ds []) (hs:w.heap.size≤w'.heap.size) {l:α} {cs:List Value} (hr:rd w' l cs []):aY w' B (xs++[l]) (ds++cs) [] :=
 ⟨(h.rd.frame (fun b hb=>by cases hb) hs).append (.single hr),List.nodup_nil,(fun b hb=>by cases hb),(fun b hb=>by cases hb)⟩
theorem aY.Wr {w w':World} {B B5 e size n:Nat} {v v':Value} {xs:List α} {ds us cs:List Value} {F G:List Nat} {x:α} (row:w.ownsRow B e size v n us) (cT:aY w B xs ds F) (cq:∀g,v.ownBlock = some g→g∉F)
 (hx:am w B5 x cs G) (h5:B≤B5) (fT:∀g,v.ownBlock = some g→g < B5) (hF:∀y∈F,y < B5) (hg:w.grownBy w' v.ownBlock) (cI:v'.ownBlock = v.ownBlock∨v'.ownBlock = some (w.heap.size+1)) :
 aY w' B (xs++[x]) (ds++cs) (F++G)∧∀g,v'.ownBlock = some g→g∉F++G:=by
 have h1:=cT.push hx h5 hF;have nf:∀g,v.ownBlock = some g→g∉F++G:=fun g hv hm=>by
  rcases List.mem_append.1 hm with hm | hm
  ·exact cq g hv hm
  ·have:=hx.base g hm;have:=fT g hv;omega
 refine ⟨h1.br (fun y hy=>hg.block y (h1.lt y hy) (fun hv=>nf y hv.symm hy)) hg.size,fun g hv hm=>?_⟩;rcases cI with cI | cI
 ·exact nf g (cI.symm.trans hv) hm
 ·have h2:=h1.lt g hm;rw [cI] at hv;injection hv with hv;omega
end
theorem adV {P:Program} {t e:TypeId} {z:Value} {size bytes:Nat} (hE:DL P t e z size bytes) {o:Oper} {a:Act} {K:Act→World→Prop} {Q:Exit→Act→World→Prop} (s x:Operand)
 (ho:o.op = .call { callee:=.builtin .append,args:=#[s,x],argTypes:=#[t,t] })
 (w:World) (base:Nat) (v:Value) (n:Nat) (xs:List Value) (aR:w.ownsRow base e size v n xs) (hs:a.eval s = v)
 (cs:List Value) (hx:a.eval x = .slice (some ⟨w.heap.size,0,none⟩) 1 1) (hl:cs.length = size) (h1:∀u∈cs,u.oneCell' = true)
 (hn:n≤2097152) (mj:bytes≤4096) (du:base≤w.heap.size)
 (h:∀v' w',w'.ownsRow base e size v' (n+1) (xs++cs)→w.grownBy w' v.ownBlock→w.heap.size+1≤w'.heap.size→K (a.put o.dst v') w'):o.wp P a (w.alloc (.cells cs.toArray e)) K Q:=by
 obtain ⟨ht,hi0,km,eQ⟩:=hE;obtain ⟨i,hi,hz,hsize,hb⟩:=info_parts hi0;have o4:(n+1) * bytes≤2097153 * 4096:=Nat.mul_le_mul J mj;refine wp_append_own (w.alloc (.cells cs.toArray e)) s x t ho base e i z size bytes ht hi hz hsize hb km eQ v n xs hs (aR.alloc _) ⟨w.heap.size,0,none⟩ 1 1 cs hx J ?_ h1 ja J (by simp;omega) ?_
 ·exact qn
 ·exact I0
theorem apA (w:World) (s:ByteArray) (h:(s.size:Int)≤1048576):rd w s [.string s] []:=cV w s J
theorem am.asi (w:World) (B:Nat):am w B Lj [.string ⟨#[]⟩,.slice none 0 0,.int .i64 0,.int .i64 0,.int .i64 0,.slice none 0 0,.slice none 0 0] []:=by
 have h:=@am.up (ByteArray × List ao × Int × Int × Int × List ba × List bH) _ w B nI Lj [.string ⟨#[]⟩,.slice none 0 0,.int .i64 0,.int .i64 0,.int .i64 0,.slice none 0 0,.slice none 0 0] [] B (fun x:nI=>(x.name,x.labels,x.ax,x.mem,x.aD,x.ag,x.ae)) ?_ (Nat.le_refl _)
 ·exact h
 ·refine am.cons (c1:=[.string ⟨#[]⟩]) (cV _ _ (by decide)) ?_;refine am.cons (c1:=[.slice none 0 0]) (Sl.nil _ none 0 (Nat.zero_le _)) ?_;refine am.cons (c1:=[.int .i64 0]) (jL _ 0 ⟨J,J⟩) ?_;refine am.cons (c1:=[.int .i64 0]) (jL _ 0 ⟨J,J⟩) ?_;refine am.cons (c1:=[.int .i64 0]) (jL _ 0 ⟨J,J⟩) ?_;refine am.cons (c1:=[.slice none 0 0]) (Sl.nil _ none 0 (Nat.zero_le _)) ?_;exact am.dy (Sl.nil _ none 0 (Nat.zero_le _))
theorem adT (s:ByteArray) (a:Int) (hs:(s.size:Int)≤1048576):VX (JB s a).1:=by
 refine ⟨qR s a hs,?_,II (fun a=>qR s a hs) _ _ _ (fun l hl=>by cases hl)⟩;have h:=MQ (dP s) (jC s 4 (fG s (dP s a).2).2).1.toNat [] (jC s 4 (fG s (dP s a).2).2).2;have:=vI s 4 (fG s (dP s a).2).2 (by decide);show ((qX (dP s) (jC s 4 (fG s (dP s a).2).2).1.toNat [] (jC s 4 (fG s (dP s a).2).2).2).1.length:Int)≤1048576;rw [h,List.length_nil];omega
theorem ahf (s:ByteArray) (a:Int) (hs:(s.size:Int)≤1048576):VY (Zf s a).1:=⟨qR s _ hs,qR s _ hs⟩
theorem Yi {P:Program} {t e:TypeId} {z:Value} {size bytes:Nat} (hE:DL P t e z size bytes) {o:Oper} {a:Act} {K:Act→World→Prop} {Q:Exit→Act→World→Prop} (s x:Operand)
 (ho:o.op = .call { callee:=.builtin .append,args:=#[s,x],argTypes:=#[t,t] })
 (w:World) (base:Nat) (v:Value) (n:Nat) (xs:List Value) (aR:w.ownsRow base e size v n xs) (hs:a.eval s = v)
 (cs:List Value) (hx:a.eval x = .slice (some ⟨w.heap.size,0,none⟩) 1 1) (hl:cs.length = size) (h1:∀u∈cs,u.oneCell' = true)
 (hn:n≤2097152) (mj:bytes≤4096) (du:base≤w.heap.size)
 (h:∀v' w',w'.ownsRow base e size v' (n+1) (xs++cs)→w.grownBy w' v.ownBlock→w.heap.size+1≤w'.heap.size→(v'.ownBlock = v.ownBlock∨v'.ownBlock = some (w.heap.size+1))→K (a.put o.dst v') w'):o.wp P a (w.alloc (.cells cs.toArray e)) K Q:=by
 obtain ⟨ht,hi0,km,eQ⟩:=hE;obtain ⟨i,hi,hz,hsize,hb⟩:=info_parts hi0;have o4:(n+1) * bytes≤2097153 * 4096:=Nat.mul_le_mul J mj;have gp:∀j u,cs[j]? = some u→(w.alloc (.cells cs.toArray e)).cell? ((⟨w.heap.size,0,none⟩:Addr).add j) = some u:=by exact qn
 obtain ⟨v',w',hr,h2,h3,h4,h5⟩:=run_append_own_at (P:=P) (w.alloc (.cells cs.toArray e)) base t o.type e i z size bytes ht hi hz hsize hb km eQ v n xs (aR.alloc _) ⟨w.heap.size,0,none⟩ 1 1 cs J gp h1 ja J (by simp;omega);unfold Oper.wp execOp;simp only [ho,resolve,invoke,builtin,Sem.run_bind,Sem.run_pure,Result.andThen_ok,List.map_toArray,List.map_cons,List.map_nil,hs,hx,hr];refine h v' w' h2 ⟨h3.os,h3.tape,h3.output,Nat.le_trans S' h3.size,fun k hk cq=>?_⟩ (by have:=h3.size;simpa using this) (by simpa using h5);rw [h3.block k (by simp;omega) cq];exact Below.heap_alloc _ _ _ hk
theorem aqg:(Tryz.prog.info? 38).map (fun i=>(i.zero,i.size,i.bytes)) = some (some (.agg #[.string ⟨#[]⟩,.slice none 0 0,.int .i64 0,.int .i64 0,.int .i64 0,.slice none 0 0]),6,88):=by kernel_rfl
theorem apB:DL Tryz.prog 24 38 (.agg #[.string ⟨#[]⟩,.slice none 0 0,.int .i64 0,.int .i64 0,.int .i64 0,.slice none 0 0]) 6 88:=⟨Tryz.underlying24,aqg,rfl,J⟩
theorem amU:(Tryz.prog.info? 48).map (fun i=>(i.zero,i.size,i.bytes)) = some (some (.agg #[.string ⟨#[]⟩,.slice none 0 0,.int .i64 0,.int .i64 0,.int .i64 0,.slice none 0 0,.slice none 0 0,.string ⟨#[]⟩,.int .i64 0]),9,136):=by kernel_rfl
theorem ado:DL Tryz.prog 25 48 (.agg #[.string ⟨#[]⟩,.slice none 0 0,.int .i64 0,.int .i64 0,.int .i64 0,.slice none 0 0,.slice none 0 0,.string ⟨#[]⟩,.int .i64 0]) 9 136:=⟨Tryz.underlying25,amU,rfl,J⟩
def Wt:List Value:=[.slice none 0 0,.slice none 0 0,.int .i64 0,.int .i64 0,.int .i64 0,.int .i64 0]
structure Sn (w wk:World) (s:ByteArray) (a:Int) (cs:List Value):Prop where
 b5:zk wk (w.heap.size+1) s a
 bw:oG wk (w.heap.size+1+1) cs
 rb:oG wk w.heap.size Wt
 aM:Below w.heap.size w wk
section
variable {w wk w':World} {s:ByteArray} {a a':Int} {cs:List Value}
theorem Sn.call (h:Sn w wk s a cs) (hc:zk w' (w.heap.size+1) s a') (hu:nN [w.heap.size+1] wk w'):Sn w w' s a' cs :=
 ⟨hc,h.bw.bX hu J,h.rb.bX hu J,h.aM.trans (hu.aM (fun y hy=>by simp only [List.mem_singleton] at hy;omega) Sc)⟩
theorem Sn.put (h:Sn w wk s a cs) (i:Nat) (u:Value):Sn w (wk.setCell ⟨w.heap.size+1+1,i,none⟩ u) s a (cs.set i u) :=
 ⟨h.b5.bE J i u,h.bw.put i u,h.rb.bE J i u,aC h.aM bz u⟩
theorem Sn.ext (h:Sn w wk s a cs) (hb:Below wk.heap.size wk w'):Sn w w' s a cs:=⟨h.b5.ext hb,h.bw.ext hb,h.rb.ext hb,ah h.aM hb⟩
theorem Sn.bE (h:Sn w wk s a cs) {c:Nat} (hc:w.heap.size+1+1 < c) (i:Nat) (u:Value):Sn w (wk.setCell ⟨c,i,none⟩ u) s a cs :=
 ⟨h.b5.bE J i u,h.bw.bE J i u,h.rb.bE J i u,aC h.aM bz u⟩
theorem Sn.grown {row:Option Nat} (h:Sn w wk s a cs) (hg:wk.grownBy w' row) (hr:∀q,row = some q→w.heap.size+1+1 < q):Sn w w' s a cs :=
 ⟨h.b5.br (hg.block _ h.b5.lt vB),h.bw.br (hg.block _ h.bw.lt vB),h.rb.br (hg.block _ h.rb.lt vB),
  ⟨hg.os.trans h.aM.os,hg.tape.trans h.aM.tape,hg.output.trans h.aM.output,Nat.le_trans h.aM.size hg.size,fun i hi=>(hg.block i Sc vB).trans (h.aM.block i hi)⟩⟩
end
theorem amP (s:ByteArray) (a:Int) (hs:(s.size:Int)≤1048576):U6 (Ad s a).1:=by
 refine ⟨qR s a hs,?_,NM s _ hs,?_,II (fun a=>⟨qR s _ hs,qR s _ hs⟩) _ _ _ (fun l hl=>by cases hl)⟩
 ·have:=Kw s (dP s a).2;show ((iF s (dP s a).2).1.length:Int)≤1048576;omega
 ·have h:=MQ (Gs s) (jC s 4 (fG s (fG s (fG s (iF s (dP s a).2).2).2).2).2).1.toNat [] (jC s 4 (fG s (fG s (fG s (iF s (dP s a).2).2).2).2).2).2;have:=vI s 4 (fG s (fG s (fG s (iF s (dP s a).2).2).2).2).2 (by decide);show ((qX (Gs s) (jC s 4 (fG s (fG s (fG s (iF s (dP s a).2).2).2).2).2).1.toNat [] (jC s 4 (fG s (fG s (fG s (iF s (dP s a).2).2).2).2).2).2).1.length:Int)≤1048576;rw [h,List.length_nil];omega
theorem QB {α:Type} (r:Int→α × Int) (s:ByteArray) (a:Int):(xC r s 4 a).1.length≤4:=by
 have h:=MQ r (jC s 4 a).1.toNat [] (jC s 4 a).2;have:=vI s 4 a (by decide);unfold xC;rw [h,List.length_nil];omega
theorem UM {α:Type} {r:Int→α × Int} {p:α→Prop} (hr:∀a,p (r a).1) (s:ByteArray) (most a:Int):∀x∈(xC r s most a).1,p x:=II hr _ _ _ (fun l hl=>by cases hl)
theorem aoL (s:ByteArray) (a:Int) (hs:(s.size:Int)≤1048576):Xl (Dl s a).1:=by
 have hl:=Kw s (dP s a).2;unfold Dl Ag Ll;dsimp only;refine ⟨qR s a hs,by dsimp only;omega,NM s _ hs,?_,UM (fun a=>adT s a hs) s _ _,?_,UM (fun a=>ahf s a hs) s _ _⟩
 ·have:=QB (JB s) s (fG s (fG s (fG s (iF s (dP s a).2).2).2).2).2;dsimp only;omega
 ·have:=QB (Zf s) s (xC (JB s) s 4 (fG s (fG s (fG s (iF s (dP s a).2).2).2).2).2).2;dsimp only;omega
theorem am.Zg {α:Type} [bd α] {w w':World} {B b:Nat} {x:α} {cs:List Value} {F:List Nat} (h:am w B x cs F) (hu:nN [b] w w') (hb:b < B):am w' B x cs F :=
 h.br (fun y hy=>hu.block y (h.lt y hy) (by have:=h.base y hy;simp only [List.mem_singleton];omega)) hu.size
theorem am.aoO {α:Type} [bd α] {w w':World} {B B2:Nat} {x:α} {cs:List Value} {F:List Nat} {row:Option Nat} (h:am w B x cs F) (hg:w.grownBy w' row) (hF:∀y∈F,y < B2) (hr:∀q,row = some q→B2≤q):am w' B x cs F :=
 h.br (fun y hy=>hg.block y (h.lt y hy) ZH) hg.size
theorem am.Dg {w:World} {B:Nat} {p:nI} {nm:ByteArray} {n:Int} {ps:List Value} {G:List Nat} (h:am w B p ps G) (h1:(nm.size:Int)≤1048576) (h2:bi n):am w B (⟨p,nm,n⟩:ai) (ps++[.string nm,.int .i64 n]) G:=by
 refine am.up (B':=B) (fun x:ai=>(x.aS,x.on,x.seq)) ?_ (Nat.le_refl _);have h3:am w (B+w.heap.size) (nm,n) ([.string nm]++[.int .i64 n]) []:=am.cons (cV w nm J) (am.dy (jL w n h2));have h4:=am.b9 h h3 J (fun b hb=>by have:=h.lt b hb;omega);simpa using h4
theorem am.iI {w:World} {B B3 B4:Nat} {H:List az} {P:List ai} {n p q f:Int} {Ah Ap:Option Addr} {ch cp:Nat} {Gh Gp:List Nat} (h:am w B3 H [.slice Ah H.length ch] Gh) (k:am w B4 P [.slice Ap P.length cp] Gp) (hB:B≤B3) (rv:B3≤B4) (hG:∀y∈Gh,y < B4) (hn:bi n) (hp:bi p) (hq:bi q) (hf:bi f) :
 am w B (⟨H,P,n,⟨p,q,f⟩⟩:aU) [.slice Ah H.length ch,.slice Ap P.length cp,.int .i64 n,.int .i64 p,.int .i64 q,.int .i64 f] (Gh++Gp):=by
 refine am.up (B':=B3) (fun x:aU=>(x.Z,x.O,x.next,x.weights)) ?_ hB;have h5:am w (B4+w.heap.size) (⟨p,q,f⟩:rZ) ([.int .i64 p]++([.int .i64 q]++[.int .i64 f])) []:=by exact I9
 have h6:=am.cons (jL w n hn) h5;have h7:=am.b9 h (am.b9 k h6 J (fun b hb=>by have:=k.lt b hb;omega)) rv hG;simpa using h7
theorem am.apD {α:Type} [bd α] (w:World) (B:Nat):am w B ([]:List α) [.slice none ([]:List α).length 0] []:=⟨Sl.nil w none 0 (Nat.zero_le _),List.nodup_nil,(fun b hb=>by cases hb),(fun b hb=>by cases hb)⟩
theorem am.ZW (w:World) (B:Nat):am w B nX Wt []:=by
 have h:=am.iI (w:=w) (B:=B) (B3:=B) (B4:=B) (n:=0) (p:=0) (q:=0) (f:=0) (am.apD (α:=az) w B) (am.apD (α:=ai) w B) (Nat.le_refl _) (Nat.le_refl _) (fun b hb=>by cases hb) ⟨by decide,by decide⟩ ⟨by decide,by decide⟩ ⟨by decide,by decide⟩ ⟨by decide,by decide⟩;exact h
theorem TS {hs:List az} (h:∀y∈hs,U6 y) (k:Int):((Bl hs k).size:Int)≤1048576:=by
 unfold Bl;split
 ·split
  ·rename_i x hx;exact (h x (List.mem_of_getElem? hx)).ns
  ·decide
 ·decide
def db (b:ByteArray):List UInt8:=b.data.toList
theorem nW (a b:ByteArray):db (a++b) = db a++db b:=by unfold db;rw [ByteArray.data_append,Array.toList_append]
theorem vl (a:ByteArray):(db a).length = a.size:=rfl
theorem aD2 {a b:ByteArray} (h:db a = db b):a = b:=by
 obtain ⟨a⟩:=a;obtain ⟨b⟩:=b;have:a = b:=Array.toList_inj.1 h;rw [this]
def i8 (s:ByteArray) (a:Int) (t:List UInt8):Prop:=t <+: (db s).drop a.toNat
theorem QN {s:ByteArray} {a:Int} {t u:List UInt8} (ha:0≤a):i8 s a (t++u)↔i8 s a t∧i8 s (a+t.length) u:=by
 unfold i8;have e:(db s).drop (a+t.length).toNat = ((db s).drop a.toNat).drop t.length:=by
  rw [List.drop_drop];congr 1;omega
 rw [e];generalize (db s).drop a.toNat = M;constructor
 ·intro h;have h1:t <+: M:=(List.prefix_append t u).trans h;obtain ⟨M',rfl⟩:=h1;rw [List.drop_left];exact ⟨List.prefix_append ..,(List.prefix_append_right_inj t).1 h⟩
 ·rintro ⟨⟨M',rfl⟩,h⟩;rw [List.drop_left] at h;exact (List.prefix_append_right_inj t).2 h
theorem aF8 (s:ByteArray) (a:Int):i8 s a []:=List.nil_prefix
def d7 (s:ByteArray) {α:Type} (r:Int→α × Int) (W:α→List UInt8) (ok:α→Prop):Prop :=
 ∀a:Int,0≤a→∀v b,(r a = (v,b)∧0≤b)↔(ok v∧i8 s a (W v)∧b = a+(W v).length)
section
variable {s:ByteArray} {α β:Type} {r:Int→α × Int} {W:α→List UInt8} {ok:α→Prop}
theorem d7.aD1 {q:α→Int→β × Int} {V:β→List UInt8} {MW:β→Prop} (h1:d7 s r W ok) (v:α) (h2:ok v→d7 s (q v) V MW) (hn:∀v a,a < 0→(q v a).2 < 0) {a:Int} (ha:0≤a) (u:β) (b:Int) :
 ((((r a).1,(q (r a).1 (r a).2).1),(q (r a).1 (r a).2).2) = ((v,u),b)∧0≤b)↔((ok v∧MW u)∧i8 s a (W v++V u)∧b = a+(W v++V u).length):=by
 rw [QN ha,List.length_append];constructor
 ·rintro ⟨h,hb⟩;simp only [Prod.mk.injEq] at h;obtain ⟨⟨rfl,rfl⟩,rfl⟩:=h;have h0:0≤(r a).2:=by
   rcases Int.lt_or_le (r a).2 0 with ap | lA
   ·exact absurd (hn (r a).1 _ ap) J
   ·exact lA
  obtain ⟨o1,l1,e1⟩:=(h1 a ha (r a).1 (r a).2).1 ⟨rfl,h0⟩;obtain ⟨o2,l2,e2⟩:=(h2 o1 (r a).2 h0 _ _).1 ⟨rfl,hb⟩;rw [← e1];exact ⟨⟨o1,o2⟩,⟨l1,l2⟩,J⟩
 ·rintro ⟨⟨o1,o2⟩,⟨l1,l2⟩,rfl⟩;obtain ⟨e1,g1⟩:=(h1 a ha v _).2 ⟨o1,l1,rfl⟩;obtain ⟨e2,g2⟩:=(h2 o1 _ g1 u _).2 ⟨o2,l2,rfl⟩;rw [e1];dsimp only;rw [e2];exact ⟨by rw [Int.natCast_add,Int.add_assoc],J⟩
theorem d7.b9 {q:α→Int→β × Int} {V:α→β→List UInt8} {MW:α→β→Prop} (h1:d7 s r W ok) (h2:∀v,ok v→d7 s (q v) (V v) (MW v)) (hn:∀v a,a < 0→(q v a).2 < 0) :
 d7 s (fun a=>(((r a).1,(q (r a).1 (r a).2).1),(q (r a).1 (r a).2).2)) (fun p=>W p.1++V p.1 p.2) (fun p=>ok p.1∧MW p.1 p.2) :=
 fun a ha ⟨v,u⟩ b=>h1.aD1 v (h2 v) hn ha u b
theorem d7.map {f:α→β} (g:β→α) (EE:β→Prop) (h:d7 s r W ok) (h1:∀x,EE x→ok (g x)∧f (g x) = x) (h2:∀v,ok v→EE (f v)∧g (f v) = v):d7 s (fun a=>(f (r a).1,(r a).2)) (fun x=>W (g x)) EE:=by
 intro a ha x b;dsimp only;constructor
 ·rintro ⟨hx,hb⟩;simp only [Prod.mk.injEq] at hx;obtain ⟨rfl,rfl⟩:=hx;obtain ⟨o1,l1,e1⟩:=(h a ha (r a).1 (r a).2).1 ⟨rfl,hb⟩;obtain ⟨o2,e2⟩:=h2 _ o1;rw [e2];exact ⟨o2,l1,e1⟩
 ·rintro ⟨o1,l1,e1⟩;obtain ⟨o2,e2⟩:=h1 x o1;obtain ⟨h1,h2⟩:=(h a ha (g x) b).2 ⟨o2,l1,e1⟩;rw [h1];exact ⟨by rw [e2],h2⟩
theorem d7.to {W':α→List UInt8} {EE:α→Prop} (h:d7 s r W ok) (ho:∀v,ok v↔EE v) (hw:∀v,ok v→W v = W' v):d7 s r W' EE:=by
 intro a ha v b;rw [h a ha v b];constructor
 ·rintro ⟨o,l,e⟩;rw [hw v o] at l e;exact ⟨(ho v).1 o,l,e⟩
 ·rintro ⟨o,l,e⟩;have o':=(ho v).2 o;rw [← hw v o'] at l e;exact ⟨o',l,e⟩
theorem d7.check (h:d7 s r W ok) (c:α→Bool):d7 s (fun a=>((r a).1,if c (r a).1 = true then (r a).2 else -1)) W (fun v=>ok v∧c v = true):=by
 intro a ha v b;dsimp only;constructor
 ·rintro ⟨hx,hb⟩;simp only [Prod.mk.injEq] at hx;obtain ⟨rfl,e⟩:=hx;split at e
  ·rename_i hc;subst e;obtain ⟨o1,l1,e1⟩:=(h a ha (r a).1 (r a).2).1 ⟨rfl,hb⟩;exact ⟨⟨o1,hc⟩,l1,e1⟩
  ·omega
 ·rintro ⟨⟨o1,hc⟩,l1,e1⟩;obtain ⟨h1,h2⟩:=(h a ha v b).2 ⟨o1,l1,e1⟩;rw [h1];dsimp only;rw [if_pos hc];exact ⟨rfl,h2⟩
theorem d7.loop (h:d7 s r W ok) (hn:∀a,a < 0→(r a).2 < 0):∀(k:Nat) (xs:List α) (a:Int),0≤a→∀ys b,(qX r k xs a = (ys,b)∧0≤b)↔∃vs,ys = xs++vs∧vs.length = k∧(∀v∈vs,ok v)∧i8 s a (vs.flatMap W)∧b = a+(vs.flatMap W).length
 | 0,xs,a,ha,ys,b=>by
   rw [qX];constructor
   ·rintro ⟨hx,hb⟩;simp only [Prod.mk.injEq] at hx;obtain ⟨rfl,rfl⟩:=hx;exact ⟨[],S',rfl,(fun v hv=>by cases hv),aF8 _ _,S'⟩
   ·rintro ⟨vs,rfl,hl,_,_,rfl⟩;obtain rfl:=List.eq_nil_of_length_eq_zero hl;simp;exact ha
 | k+1,xs,a,ha,ys,b=>by
   rw [qX];constructor
   ·rintro ⟨hx,hb⟩;have h0:0≤(r a).2:=by
     rcases Int.lt_or_le (r a).2 0 with ap | lA
     ·have:=MP hn k (xs++[(r a).1]) _ ap;rw [hx] at this;dsimp only at this;omega
     ·exact lA
    obtain ⟨o1,l1,e1⟩:=(h a ha (r a).1 (r a).2).1 ⟨rfl,h0⟩;obtain ⟨vs,rfl,hl,ho,hL,e2⟩:=(d7.loop h hn k _ _ h0 ys b).1 ⟨hx,hb⟩;refine ⟨(r a).1 :: vs,S',by simp [hl],?_,?_,?_⟩
    ·intro v hv;rcases List.mem_cons.1 hv with rfl | hv
     ·exact o1
     ·exact ho v hv
    ·rw [List.flatMap_cons,QN ha,← e1];exact ⟨l1,hL⟩
    ·rw [List.flatMap_cons,List.length_append];omega
   ·rintro ⟨vs,rfl,hl,ho,hL,rfl⟩;match vs,hl with
    | v :: vs,hl =>rw [List.flatMap_cons,QN ha] at hL;obtain ⟨e1,g1⟩:=(h a ha v _).2 ⟨ho v (List.mem_cons_self ..),hL.1,rfl⟩;rw [e1];dsimp only;have h2:=(d7.loop h hn k (xs++[v]) _ g1 (xs++v :: vs) (a+((v :: vs).flatMap W).length)).2 ⟨vs,S',by simpa using hl,fun u hu=>ho u (List.mem_cons_of_mem _ hu),hL.2,by rw [List.flatMap_cons,List.length_append];omega⟩;exact h2
end
theorem vm {s:ByteArray} {k:Nat} (h:k < s.size):(db s).drop k = s[k] :: (db s).drop (k+1):=List.drop_eq_getElem_cons h
theorem VM (q:Nat):LG q≠[]:=by unfold LG;split <;> simp
theorem aDi (n:Nat) (h:n < 256):n.toUInt8.toNat = n:=by simp [Nat.toUInt8,UInt8.toNat_ofNat'];omega
theorem MX {b:UInt8} {n:Nat} (h:n < 256):n.toUInt8 = b↔n = b.toNat:=by
 constructor
 ·rintro rfl;exact (aDi n h).symm
 ·rintro rfl;simp
theorem aCQ (s:ByteArray) (a:Nat):∀(j k n m p:Nat),j = 9 - k→k≤9→(Xc s a k n = some (m,p)↔∃q,q < 128 ^ j∧m = n+q * 2 ^ (7 * k)∧(k = 0∨0 < q)∧LG q <+: (db s).drop (a+k)∧p = a+k+(LG q).length)
 | 0,k,n,m,p,hj,hk=>by
   rw [UH (fun h=>by omega)];constructor
   ·intro h;cases h
   ·rintro ⟨q,hq,_,h,_⟩;omega
 | j+1,k,n,m,p,hj,hk=>by
   by_cases hs:a+k < s.size
   ·have ga:k < 9:=J;rw [vm hs];have M0:s[a+k].toNat < 256:=s[a+k].toNat_lt;have Bi:128≤128 ^ (j+1):=(by rw [Nat.pow_succ];have:0 < 128 ^ j:=Nat.pow_pos (by decide);omega);by_cases hc:s[a+k].toNat < 128
    ·
     have small:∀q,LG q <+: s[a+k] :: (db s).drop (a+k+1)↔q = s[a+k].toNat:=by
      intro q;by_cases hq:q < 128
      ·rw [AW hq,List.cons_prefix_cons,MX J];exact ⟨fun h=>h.1,fun h=>⟨h,List.nil_prefix⟩⟩
      ·rw [AZ J,List.cons_prefix_cons,MX J];constructor
       ·intro h;omega
       ·intro h;omega
     by_cases hz:s[a+k].toNat = 0∧0 < k
     ·rw [wX ga hs hz.1 hz.2];constructor
      ·intro h;cases h
      ·rintro ⟨q,_,_,h1,h2,_⟩;rw [small] at h2;omega
     ·rw [x9 ga hs hc hz];constructor
      ·intro h;cases h
       refine ⟨s[a+k].toNat,J,by rw [Nat.mod_eq_of_lt hc],J,(small _).2 rfl,?_⟩;rw [AW hc];rfl
      ·rintro ⟨q,_,rfl,_,h2,rfl⟩;rw [small] at h2;subst h2;rw [AW hc,Nat.mod_eq_of_lt hc];rfl
    ·rw [uT ga hs J,aCQ s a j (k+1) _ m p J J];have e7:2 ^ (7 * (k+1)) = 128 * 2 ^ (7 * k):=(by rw [Nat.mul_add,Nat.pow_add,Nat.mul_comm]);constructor
     ·rintro ⟨q,h1,rfl,h2,h3,rfl⟩;refine ⟨s[a+k].toNat % 128+128 * q,?_,?_,J,?_,?_⟩
      ·rw [Nat.pow_succ];omega
      ·rw [e7,Nat.add_mul,Nat.add_assoc];congr 2;rw [← Nat.mul_assoc,Nat.mul_comm q 128]
      ·rw [AZ (n:=s[a+k].toNat % 128+128 * q) J,List.cons_prefix_cons,MX J];refine ⟨J,?_⟩;rw [show (s[a+k].toNat % 128+128 * q) / 128 = q by omega];exact h3
      ·rw [AZ (n:=s[a+k].toNat % 128+128 * q) J,List.length_cons,show (s[a+k].toNat % 128+128 * q) / 128 = q by omega];omega
     ·rintro ⟨q,h1,rfl,h2,h3,rfl⟩;by_cases hq:q < 128
      ·rw [AW hq,List.cons_prefix_cons,MX J] at h3;omega
      ·rw [AZ (n:=q) J,List.cons_prefix_cons,MX J] at h3;refine ⟨q / 128,?_,?_,J,h3.2,?_⟩
       ·rw [Nat.pow_succ] at h1;omega
       ·have:q = s[a+k].toNat % 128+128 * (q / 128):=J;rw [e7,Nat.add_assoc];congr 1;rw [← Nat.mul_assoc,Nat.mul_comm (q / 128) 128,← Nat.add_mul,← this]
       ·rw [AZ (n:=q) J,List.length_cons];omega
   ·rw [UH (fun h=>hs h.2)];constructor
    ·intro h;cases h
    ·rintro ⟨q,_,_,_,h,_⟩;rw [List.drop_eq_nil_of_le (by show s.size≤_;omega)] at h;exact absurd (List.prefix_nil.1 h) (VM q)
theorem EG {n:Int} (h:0≤n):db (jD n) = LG n.toNat:=by unfold jD;rw [if_neg J];rfl
def VT (n:Int):List UInt8:=db (jD n)
def gh (n:Int):Prop:=0≤n∧n≤9223372036854775807
theorem mK (s:ByteArray):d7 s (fG s) VT gh:=by
 intro a ha v b;have hq:=aCQ s a.toNat 9 0 0;unfold fG Af;rw [if_neg J];have VN:(128:Nat) ^ 9 = 9223372036854775808:=by decide +kernel
 rw [VN] at hq;cases hr:Xc s a.toNat 0 0 with
 | none =>
   dsimp only;constructor
   ·rintro ⟨h,hb⟩;simp only [Prod.mk.injEq] at h;omega
   ·rintro ⟨⟨h0,h1⟩,hl,rfl⟩;have:=(hq v.toNat (a.toNat+0+(LG v.toNat).length) J J).2 ⟨v.toNat,J,S',.inl rfl,by rw [← EG h0];exact hl,rfl⟩;rw [hr] at this;cases this
 | some q =>
   obtain ⟨m,p⟩:=q;dsimp only;obtain ⟨q,h1,h2,_,h3,h4⟩:=(hq m p J J).1 hr;obtain rfl:m = q:=by simpa using h2
   constructor
   ·rintro ⟨h,hb⟩;simp only [Prod.mk.injEq] at h;obtain ⟨rfl,rfl⟩:=h;have e:=EG (n:=(m:Int)) J;simp only [Int.toNat_natCast] at e;exact ⟨⟨J,J⟩,by show db _ <+: _;rw [e];exact h3,by show _ = a+((db _).length:Int);rw [e];omega⟩
   ·rintro ⟨⟨h0,h5⟩,hl,rfl⟩;have h6:=(hq v.toNat (a.toNat+0+(LG v.toNat).length) J J).2 ⟨v.toNat,J,S',.inl rfl,by rw [← EG h0];exact hl,rfl⟩;rw [hr] at h6;simp only [Option.some.injEq,Prod.mk.injEq] at h6;have e:((VT v).length:Int) = (LG v.toNat).length:=(by show ((db _).length:Int) = _;rw [EG h0]);rw [e];exact ⟨by rw [h6.1,h6.2];congr 1 <;> omega,J⟩
theorem VO (s:ByteArray) (most:Int):d7 s (jC s most) VT (fun n=>gh n∧n≤most):=by
 intro a ha v b;have h:=mK s a ha;unfold jC;constructor
 ·rintro ⟨hx,hb⟩;split at hx
  ·rename_i hm;split at hx
   ·rename_i hn;simp only [Prod.mk.injEq] at hx;omega
   ·obtain ⟨o,l,e⟩:=(h v b).1 ⟨hx,hb⟩;rw [hx] at hm;exact ⟨⟨o,hm⟩,l,e⟩
  ·simp only [Prod.mk.injEq] at hx;omega
 ·rintro ⟨⟨o,hm⟩,l,e⟩;obtain ⟨h1,h2⟩:=(h v b).2 ⟨o,l,e⟩;rw [h1];dsimp only;rw [if_pos hm,if_neg J];exact ⟨rfl,h2⟩
def ST (t:ByteArray):List UInt8:=db (bc t)
theorem aA6 {s t:ByteArray} {p n:Nat} (h:p+n≤s.size):s.extract p (p+n) = t↔t.size = n∧db t <+: (db s).drop p:=by
 have e:db (s.extract p (p+n)) = ((db s).drop p).take n:=by unfold db;rw [ByteArray.data_extract,Array.toList_extract,List.extract_eq_take_drop];congr 1;omega
 constructor
 ·rintro rfl;refine ⟨by rw [ByteArray.size_extract];omega,?_⟩;rw [e];exact List.take_prefix ..
 ·rintro ⟨h1,h2⟩;refine aD2 ?_;rw [e];have h3:=List.prefix_iff_eq_take.1 h2;rw [vl,h1] at h3;exact h3.symm
theorem aF9 {s:ByteArray} {a:Int} {t:List UInt8} (ha:0≤a) (h:i8 s a t) (ht:t≠[]):a+t.length≤s.size:=by
 have h1:=h.length_le;rw [List.length_drop,vl] at h1;have:0 < t.length:=List.length_pos_iff.2 ht;omega
theorem tv (s:ByteArray) (hs:(s.size:Int)≤1048576):d7 s (dP s) ST (fun _=>True):=by
 intro a ha v b;have h:=mK s a ha;have eS:∀t:ByteArray,ST t = VT t.size++db t:=fun t=>by show db _ = _;unfold bc;rw [nW];rfl
 unfold dP rU;rw [if_neg J,eS,QN ha,List.length_append];constructor
 ·rintro ⟨hx,hb⟩;split at hx
  ·simp only [Prod.mk.injEq] at hx;omega
  ·rename_i hc;simp only [Prod.mk.injEq] at hx;obtain ⟨hx,rfl⟩:=hx;obtain ⟨⟨o1,o2⟩,l,e⟩:=(h (fG s a).1 (fG s a).2).1 ⟨rfl,J⟩;generalize (fG s a).1 = n at *;generalize (fG s a).2 = p at *;rw [aA6 J] at hx;have hn:(v.size:Int) = n:=J;rw [hn,← e];exact ⟨trivial,⟨l,hx.2⟩,by rw [vl];omega⟩
 ·rintro ⟨_,⟨l1,l2⟩,rfl⟩;have eQ:(v.size:Int)≤1048576:=by
   have h1:=l2.length_le;rw [List.length_drop,vl,vl] at h1;omega
  obtain ⟨e,h0⟩:=(h v.size (a+(VT v.size).length)).2 ⟨⟨J,J⟩,l1,rfl⟩;rw [e];dsimp only;have h1:=l2.length_le;rw [List.length_drop,vl,vl] at h1;have h2:a+((VT v.size).length:Int)≤s.size:=aF9 ha l1 (by rw [show VT v.size = _ from EG J];exact VM _);rw [if_neg J];refine ⟨?_,J⟩;simp only [Int.toNat_natCast,Prod.mk.injEq,vl];exact ⟨(aA6 J).2 ⟨rfl,l2⟩,J⟩
theorem d7.nJ {s:ByteArray} {α:Type} {r:Int→α × Int} {W:α→List UInt8} {ok:α→Prop} (h:d7 s r W ok) (hn:∀a,a < 0→(r a).2 < 0) (most:Int) (hm:most≤9223372036854775807) :
 d7 s (xC r s most) (fun vs=>VT vs.length++vs.flatMap W) (fun vs=>(vs.length:Int)≤most∧∀v∈vs,ok v):=by
 have h2:∀n:Int,gh n∧n≤most→d7 s (fun a=>qX r n.toNat [] a) (fun vs=>vs.flatMap W) (fun vs=>vs.length = n.toNat∧∀v∈vs,ok v):=by
  intro n nf a ha ys b;have h3:=h.loop hn n.toNat [] a ha ys b;dsimp only;rw [h3];constructor
  ·rintro ⟨vs,rfl,h4,h5,h6,h7⟩;exact ⟨⟨h4,h5⟩,h6,h7⟩
  ·rintro ⟨⟨h4,h5⟩,h6,h7⟩;exact ⟨ys,rfl,h4,h5,h6,h7⟩
 have h4:=d7.map (f:=fun p:Int × List α=>p.2) (fun vs=>((vs.length:Int),vs)) (fun vs=>(vs.length:Int)≤most∧∀v∈vs,ok v) ((VO s most).b9 h2 (fun v a ha=>MP hn _ _ _ ha)) (fun vs hv=>by
  obtain ⟨h5,h6⟩:=hv
  exact ⟨⟨⟨⟨by dsimp only;omega,by dsimp only;omega⟩,h5⟩,S',h6⟩,rfl⟩) (fun v hv=>by
  obtain ⟨n,vs⟩:=v;obtain ⟨⟨⟨h5,_⟩,h8⟩,h6,h7⟩:=hv;dsimp only at h5 h6 h7 h8 ⊢;rw [h6];refine ⟨⟨J,h7⟩,?_⟩;congr 1
  omega)
 exact h4
end Go.Proofs.YtjahcnjmjahbaaaGreat
