/- slices.Clone at labels, taints, tolerances, strings, needs. No condition. -/
import Derived.Test.YtjahcnjmjahbaaaGreatRdP
namespace Go.Proofs.YtjahcnjmjahbaaaGreat
open Go.ChangeShapes Go.WideShapes Go.ChangeAt Go.RowKit
set_option linter.unusedVariables false
set_option linter.unusedSimpArgs false
set_option maxHeartbeats 2000000
set_option maxRecDepth 100000
theorem anQ:(Tryz.prog.info? 57).map (fun i=>(i.zero,i.size,i.bytes)) = some (some ((.agg #[.string ⟨#[]⟩,.string ⟨#[]⟩])),2,32):=by kernel_rfl
theorem afn:DL Tryz.prog 35 57 ((.agg #[.string ⟨#[]⟩,.string ⟨#[]⟩])) 2 32:=⟨Tryz.underlying35,anQ,rfl,J⟩
theorem acO {w:World} {x:ao} {cs:List Value} {F:List Nat} (h:rd w x cs F):F = []:=by obtain ⟨_,hF,_⟩:=vO h;exact hF
theorem anR:(Tryz.prog.info? 84).map (fun i=>(i.zero,i.size,i.bytes)) = some (some ((.agg #[.string ⟨#[]⟩,.string ⟨#[]⟩,.int .i64 0])),3,40):=by kernel_rfl
theorem alP:DL Tryz.prog 36 84 ((.agg #[.string ⟨#[]⟩,.string ⟨#[]⟩,.int .i64 0])) 3 40:=⟨Tryz.underlying36,anR,rfl,J⟩
theorem aiH {w:World} {x:iU} {cs:List Value} {F:List Nat} (h:rd w x cs F):F = []:=by obtain ⟨_,hF,_⟩:=oK h;exact hF
theorem afp:(Tryz.prog.info? 91).map (fun i=>(i.zero,i.size,i.bytes)) = some (some ((.agg #[.string ⟨#[]⟩,.bool false,.string ⟨#[]⟩,.int .i64 0])),4,48):=by kernel_rfl
theorem abo:DL Tryz.prog 44 91 ((.agg #[.string ⟨#[]⟩,.bool false,.string ⟨#[]⟩,.int .i64 0])) 4 48:=⟨Tryz.underlying44,afp,rfl,J⟩
theorem Y5 (xs:List bH) (A:Option Addr) (c:Nat) (F:List Nat) (w:World) (h:Sl w xs A c F) (hl:(xs.length:Int)≤1048576) :
 Calls Tryz.prog 147 #[.slice A xs.length c] w fun e w'=>∃A' c' ds G,e = .returned (.slice A' xs.length c')∧w'.ownsRow w.heap.size 91 4 (.slice A' xs.length c') xs.length ds∧jo w' xs ds G∧(∀b∈G,b∈F)∧Below w.heap.size w w':=by
 cases A with
 | none =>
   obtain rfl:xs = []:=by
    obtain ⟨A',c',G,ds,e0,_,_,_,h0⟩:=h;simp only [List.cons.injEq,Value.slice.injEq,and_true,true_and] at e0;rcases h0 with h0 | ⟨b,o,hA,_⟩
    ·exact h0.1
    ·rw [← e0.1] at hA;cases hA
   have q22:∀(w:World) (a:Option Addr) (n c n' c':Nat),(binOp .eql 44 (.slice a n c) (.slice none n' c')).run Tryz.prog w = .ok (.bool a.isNone) w:=fun w a n c n' c'=>Lib.run_eql_slice_nil w _ _ a n c n' c' Tryz.underlying44;go_enter Tryz.func147,Tryz.ntmps147;go_wp2;go_ret
   exact ⟨none,0,[],[],rfl,World.ownsRow_nil w _ _ _,⟨rfl,rfl⟩,(fun b hb=>by cases hb),aj _⟩
 | some ad =>
   have H:=I h;clear h;have q22:∀(w:World) (a:Option Addr) (n c n' c':Nat),(binOp .eql 44 (.slice a n c) (.slice none n' c')).run Tryz.prog w = .ok (.bool a.isNone) w:=fun w a n c n' c'=>Lib.run_eql_slice_nil w _ _ a n c n' c' Tryz.underlying44;go_enter Tryz.func147,Tryz.ntmps147
   go_wp2_with (
    at_builtin
    go_must (refine rW abo X X _ _ X _ w.heap.size _ 0 [] (World.ownsRow_made (size:=4) w #[] 0 (Nat.le_refl _) (Nat.zero_le _) S') X xs (some ad) c F (H.out.ext (ak (aj _) _)) X J J S' ?_)
    intro v2 w2 ds G dq bv aR hg cI;go_must (obtain ⟨A2,c2,eE⟩:=mY aR)
    go_must (subst eE))
   simp only [Nat.zero_add,List.nil_append] at aR;go_ret
   refine ⟨A2,c2,ds,G,S',aR,dq.frame (fun b hb=>hg.block b (dq.lt b hb) (fun e=>?_)) hg.size,bv,lS (World.ownsRow_made (e:=91) (size:=4) w #[] 0 (Nat.le_refl _) (Nat.zero_le _) S') hg (ak (aj _) _) S'⟩;have h1:=H.out.lt b (bv b hb);simp [Value.ownBlock] at e;omega
theorem Zk {w:World} {x:bH} {cs:List Value} {F:List Nat} (h:rd w x cs F):F = []:=by obtain ⟨_,hF,_⟩:=jv h;exact hF
theorem Xj:(Tryz.prog.info? 9).map (fun i=>(i.zero,i.size,i.bytes)) = some (some (.string ⟨#[]⟩),1,16):=by kernel_rfl
theorem Ud:DL Tryz.prog 61 9 (.string ⟨#[]⟩) 1 16:=⟨Tryz.underlying61,Xj,rfl,J⟩
theorem P8 {w:World} {x:ByteArray} {cs:List Value} {F:List Nat} (h:rd w x cs F):F = []:=h.2.1
theorem apQ:(Tryz.prog.info? 89).map (fun i=>(i.zero,i.size,i.bytes)) = some (some ((.agg #[.string ⟨#[]⟩,.int .i64 0,.slice none 0 0])),3,48):=by kernel_rfl
theorem apf:DL Tryz.prog 43 89 ((.agg #[.string ⟨#[]⟩,.int .i64 0,.slice none 0 0])) 3 48:=⟨Tryz.underlying43,apQ,rfl,J⟩
structure fa (α:Type) where
 l:List α
 t:TypeId
instance {α:Type} [bd α]:bd (fa α) where
 size:=1
 pos:=by omega
 rd w x cs F:=rd w x.l cs F∧((x.l = []∧cs = [.slice none 0 0])∨∃g c b5 G,x.l≠[]∧cs = [.slice (some ⟨g,0,none⟩) x.l.length c]∧F = g :: G∧w.heap[g]? = some (.cells b5 x.t (0,0))∧b5.size = c * bd.size α)
 len h:=bd.len h.1
 one h:=bd.one h.1
 lt h:=bd.lt h.1
 frame h hk hz:=⟨bd.frame h.1 hk hz,by
  rcases h.2 with h2 | ⟨g,c,b5,G,h0,h1,h2,h3,h4⟩
  ·exact .inl h2
  ·exact .inr ⟨g,c,b5,G,h0,h1,h2,(hk g (by rw [h2];exact List.mem_cons_self ..)).trans h3,h4⟩⟩
section
variable {α:Type} [bd α] {w:World} {B:Nat} {xs:List α} {ds:List Value} {F:List Nat}
theorem am.list {cs:List Value} {t:TypeId} (h:am w B (fa.mk xs t) cs F):am w B xs cs F:=⟨h.rd.1,h.nodup,h.base,h.plain⟩
theorem am.ayX {e:TypeId} {v:Value} (h0:w.ownsRow B e (bd.size α) v xs.length ds) (h:aY w B xs ds F) (cq:∀g,v.ownBlock = some g→g∉F) (hv:xs.length = 0→v = .slice none 0 0):∃A c G,v = .slice A xs.length c∧am w B (fa.mk xs e) [.slice A xs.length c] G:=by
 obtain ⟨A,c,G,hA,hO⟩:=am.oJ h0 h cq;refine ⟨A,c,G,hA,⟨⟨hO.rd,?_⟩,hO.nodup,hO.base,hO.plain⟩⟩;by_cases hx:xs = []
 ·left;have:=hv (by rw [hx];rfl);rw [this] at hA;exact ⟨hx,by rw [hA]⟩
 ·right;rcases h0.2 with ⟨_,hn⟩ | ⟨g,aL,b5,h1,h2,h3,h4,h5,h6,h7⟩
  ·exact absurd (List.eq_nil_of_length_eq_zero hn) hx
  ·rw [hA] at h1;simp only [Value.slice.injEq,true_and] at h1;obtain ⟨rfl,rfl⟩:=h1;obtain ⟨A',c',G',ds',e0,_,_,_,h8⟩:=hO.rd;simp only [List.cons.injEq,Value.slice.injEq,and_true,true_and] at e0;obtain ⟨rfl,rfl⟩:=e0;rcases h8 with ⟨h9,_⟩ | ⟨b,o,hb,rfl,_,_⟩
   ·exact absurd h9 hx
   ·simp only [Option.some.injEq,Addr.mk.injEq,and_true] at hb;obtain ⟨rfl,rfl⟩:=hb;exact ⟨g,c,b5,G',hx,rfl,rfl,h3,h6⟩
theorem am.om {t:TypeId} {A:Option Addr} {c:Nat} (h:am w B (fa.mk xs t) [.slice A xs.length c] F):∃ds G,w.ownsRow B t (bd.size α) (.slice A xs.length c) xs.length ds∧aY w B xs ds G∧(∀g,(Value.slice A xs.length c).ownBlock = some g→g∉G)∧(∀b∈G,b∈F):=by
 obtain ⟨⟨A',c',G,ds,e0,hl,hm,hc,h0⟩,h2⟩:=h.rd;simp only [List.cons.injEq,Value.slice.injEq,and_true,true_and] at e0;obtain ⟨rfl,rfl⟩:=e0;rcases h2 with ⟨hx,he⟩ | ⟨g,c',b5,G',hx0,he,hF,hg,hs⟩
 ·simp only at hx;subst hx;simp only [List.length_nil,List.cons.injEq,Value.slice.injEq,and_true,true_and] at he;obtain ⟨rfl,rfl⟩:=he;exact ⟨[],[],⟨S',.inl ⟨rfl,rfl⟩⟩,aY.nil w B,(fun g hg=>by cases hg),(fun b hb=>by cases hb)⟩
 ·simp only [List.cons.injEq,Value.slice.injEq,and_true,true_and] at he;obtain ⟨rfl,rfl⟩:=he;rcases h0 with ⟨hx,qp⟩ | ⟨b,o,hb,ld,ap,cj⟩
  ·rw [qp] at hF;cases hF
  ·simp only [Option.some.injEq,Addr.mk.injEq,and_true] at hb;obtain ⟨rfl,rfl⟩:=hb;subst ld;have hn:=List.nodup_cons.1 h.nodup;have fY:ds.length = xs.length * bd.size α:=hc.len;refine ⟨ds,G,⟨fY,.inr ⟨g,c,b5,rfl,h.base g (List.mem_cons_self ..),hg,hl,hm,hs,?_⟩⟩,⟨hc,hn.2,fun b hb=>h.base b (List.mem_cons_of_mem _ hb),fun b hb=>h.plain b (List.mem_cons_of_mem _ hb)⟩,(fun q hq=>by simp only [Value.ownBlock,Option.some.injEq] at hq;subst hq;exact hn.1),fun b hb=>List.mem_cons_of_mem _ hb⟩;apply List.ext_getElem?;intro j;rw [List.getElem?_take];by_cases hj:j < xs.length * bd.size α
   ·rw [if_pos hj];have hd:ds[j]? = some ds[j]:=List.getElem?_eq_getElem J;have:=cj j _ hd;rw [Nat.zero_add,cell_of_row w g j b5 t (0,0) hg] at this;rw [hd,← this];simp
   ·rw [if_neg hj,List.getElem?_eq_none J]
theorem am.K3 {t:TypeId} {v:Value} {G:List Nat} (h:am w B xs [v] F) (hr:Go.Proofs.YtjahcnjmjahbaaaGreat.bd.rd w (fa.mk xs t) [v] G):am w B (fa.mk xs t) [v] F:=by
 refine ⟨⟨h.rd,?_⟩,h.nodup,h.base,h.plain⟩;rcases hr.2 with h1 | ⟨g,c,b5,G',h0,h1,h2,h3,h4⟩
 ·exact .inl h1
 ·refine .inr ⟨g,c,b5,?_⟩;obtain ⟨A',c',G2,ds,e0,hl,hm,hc,h5⟩:=h.rd;rcases h5 with ⟨hx,_⟩ | ⟨b,o,hb,hF,_,_⟩
  ·exact absurd hx h0
  ·subst hb;rw [e0] at h1;simp only [List.cons.injEq,Value.slice.injEq,Option.some.injEq,Addr.mk.injEq,and_true,true_and] at h1;refine ⟨G2,h0,?_,?_,h3,h4⟩
   ·rw [e0,h1.1.1,h1.1.2,h1.2]
   ·rw [hF,h1.1.1]
end
def K4 (x:aU) (w:World) (cs:List Value):Prop:=∃Ah ch Ap cp Gh Gp rest,cs = .slice Ah x.Z.length ch :: .slice Ap x.O.length cp :: rest∧Go.Proofs.YtjahcnjmjahbaaaGreat.bd.rd w (fa.mk x.Z 38) [.slice Ah x.Z.length ch] Gh∧Go.Proofs.YtjahcnjmjahbaaaGreat.bd.rd w (fa.mk x.O 48) [.slice Ap x.O.length cp] Gp
structure pL (w wk:World) (cs zs os:List Value):Prop where
 bw:oG wk w.heap.size cs
 rb:oG wk (w.heap.size+1) zs
 ob:oG wk (w.heap.size+1+1) os
 aM:Below w.heap.size w wk
section
variable {w wk w':World} {cs zs os:List Value}
theorem pL.new (w:World) (cs zs os:List Value) (t t2 t3:TypeId):pL w (((w.alloc (.cells cs.toArray t)).alloc (.cells zs.toArray t2)).alloc (.cells os.toArray t3)) cs zs os :=
 ⟨((oG.new w cs t).ext (ak (aj _) _)).ext (ak (aj _) _),(by have:=oG.new (w.alloc (.cells cs.toArray t)) zs t2;rw [World.size_alloc] at this;exact this.ext (ak (aj _) _)),(by have:=oG.new ((w.alloc (.cells cs.toArray t)).alloc (.cells zs.toArray t2)) os t3;rw [World.size_alloc,World.size_alloc] at this;exact this),ak (ak (ak (aj _) _) _) _⟩
theorem pL.ext (h:pL w wk cs zs os) (hb:Below wk.heap.size wk w'):pL w w' cs zs os:=⟨h.bw.ext hb,h.rb.ext hb,h.ob.ext hb,ah h.aM hb⟩
theorem pL.put (h:pL w wk cs zs os) (i:Nat) (u:Value):pL w (wk.setCell ⟨w.heap.size+1+1,i,none⟩ u) cs zs (os.set i u):=⟨h.bw.bE J i u,h.rb.bE J i u,h.ob.put i u,aC h.aM bz u⟩
end
theorem Oo {α:Type} [bd α] {w w':World} {x:α} {cs:List Value} {F:List Nat} (h:rd w x cs F) (hb:Below w.heap.size w w'):rd w' x cs F:=bd.frame h (fun b d9=>hb.block b (bd.lt h b d9)) hb.size
theorem rQ {w w':World} {B e size n b:Nat} {v:Value} {xs:List Value} (h:w.ownsRow B e size v n xs) (hu:nN [b] w w') (hb:b < B):w'.ownsRow B e size v n xs :=
 h.kept (row:=some b) ⟨hu.os,hu.tape,hu.output,hu.size,fun k hk cq=>hu.block k hk (by simpa using fun e=>cq (by rw [e]))⟩ (by
   by_cases hv:v.ownBlock = some b
   ·have:=(h.lt b hv).1;omega
   ·exact .inr hv)
theorem nN.alloc {F:List Nat} {w w1:World} (h:nN F w w1) (o:Obj):nN F w (w1.alloc o):=h.trans (nN.lq F (ak (aj _) o))
theorem am.drew {α:Type} [bd α] {w:World} {B:Nat} {x:α} {cs:List Value} {F:List Nat} (h:am w B x cs F):am w.drew B x cs F:=h.ext (aA (aj _))
def xP (x:ao) (k:Int):ao:={ key:=lZ (k),value:=lZ (k+1) }
def bC (x:ao):Nat:=1+1
def D8 (x:iU) (k:Int):iU:={ key:=lZ (k),value:=lZ (k+1),al:=(k+1+1) }
def kC (x:iU):Nat:=1+1+1
def F9 (x:az) (k:Int):az:={ x with labels:=EX xP bC x.labels (k),aT:=EX D8 kC x.aT (k+(cO bC x.labels:Int)) }
theorem fR (b:Nat):∀(vs:List Value) (o:Nat) (w:World),(w.setCells b o vs).heap.size = w.heap.size
 | [],_,_=>rfl
 | v :: r,o,w=>by rw [World.setCells,fR b r];simp [World.setCell]
theorem vV (b:Nat) {k:Nat} (hk:k≠b):∀(vs:List Value) (o:Nat) (w:World),(w.setCells b o vs).heap[k]? = w.heap[k]?
 | [],_,_=>rfl
 | v :: r,o,w=>by rw [World.setCells,vV b hk r];exact Below.heap_setCell _ _ _ _ bz
theorem F8 (b:Nat):∀(vs:List Value) (o:Nat) (w:World),(w.setCells b o vs).os = w.os∧(w.setCells b o vs).tape = w.tape∧(w.setCells b o vs).output = w.output
 | [],_,_=>⟨rfl,rfl,rfl⟩
 | v :: r,o,w=>by rw [World.setCells];exact F8 b r (o+1) _
theorem EK (b:Nat):∀(vs:List Value) (o:Nat) (w:World),ew w b→ew (w.setCells b o vs) b
 | [],_,_,h=>h
 | v :: r,o,w,h=>by rw [World.setCells];exact EK b r (o+1) _ (h.setCell b o v)
def eI (w:World) (B:Nat) (e:TypeId) (size:Nat) (A:Option Addr) (c:Nat):Prop :=
 (A = none∧c = 0)∨∃g b5,A = some ⟨g,0,none⟩∧B≤g∧w.heap[g]? = some (.cells b5 e (0,0))∧c≤maxLen∧b5.size = c * size
section
variable {w w':World} {B size c:Nat} {e:TypeId} {A:Option Addr}
theorem eI.oJ {B' n m:Nat} {xs:List Value} (h:w.ownsRow B' e size (.slice A n c) m xs) (hB:B≤B'):eI w B e size A c:=by
 rcases h.2 with ⟨h1,_⟩ | ⟨g,aL,b5,h1,h2,h3,h4,h5,h6,_⟩
 ·simp only [Value.slice.injEq] at h1;exact .inl ⟨h1.1,h1.2.2⟩
 ·simp only [Value.slice.injEq] at h1;obtain ⟨rfl,_,rfl⟩:=h1;exact .inr ⟨g,b5,rfl,Nat.le_trans hB h2,h3,h5,h6⟩
theorem eI.ext (h:eI w B e size A c) (hb:Below w.heap.size w w'):eI w' B e size A c:=by
 rcases h with h | ⟨g,b5,h1,h2,h3,h4⟩
 ·exact .inl h
 ·have hg:g < w.heap.size:=by
   exact zG
  exact .inr ⟨g,b5,h1,h2,(hb.block g hg).trans h3,h4⟩
theorem eI.drawn {b:Nat} (h:eI w B e size A c) (hu:nN [b] w w') (hb:b < B):eI w' B e size A c:=by
 rcases h with h | ⟨g,b5,h1,h2,h3,h4⟩
 ·exact .inl h
 ·have hg:g < w.heap.size:=by
   exact zG
  exact .inr ⟨g,b5,h1,h2,(hu.block g hg (by simp;omega)).trans h3,h4⟩
theorem eI.mono {B':Nat} (h:eI w B e size A c) (hB:B'≤B):eI w B' e size A c:=by
 rcases h with h | ⟨g,b5,h1,h2,h3⟩
 ·exact .inl h
 ·exact .inr ⟨g,b5,h1,Nat.le_trans hB h2,h3⟩
theorem eI.lt (h:eI w B e size A c):∀g,A = some ⟨g,0,none⟩→g < w.heap.size:=by
 rintro g rfl;rcases h with ⟨h,_⟩ | ⟨g,b5,h1,h2,h3,h4⟩
 ·cases h
 ·simp only [Option.some.injEq,Addr.mk.injEq,and_true] at h1;subst h1;exact zG
theorem eI.br (h:eI w B e size A c) (hk:∀g,A = some ⟨g,0,none⟩→w'.heap[g]? = w.heap[g]?):eI w' B e size A c:=by
 rcases h with h | ⟨g,b5,h1,h2,h3,h4⟩
 ·exact .inl h
 ·exact .inr ⟨g,b5,h1,h2,(hk g h1).trans h3,h4⟩
theorem eI.bE {b:Nat} (h:eI w B e size A c) (hb:b < B) (j:Nat) (v:Value):eI (w.setCell ⟨b,j,none⟩ v) B e size A c:=by
 rcases h with h | ⟨g,b5,h1,h2,h3,h4⟩
 ·exact .inl h
 ·exact .inr ⟨g,b5,h1,h2,(Below.heap_setCell _ _ _ _ bz).trans h3,h4⟩
end
theorem ayq (xs:List ba) (A:Option Addr) (c:Nat) (F:List Nat) (w:World) (h:Sl w xs A c F) (hl:(xs.length:Int)≤1048576) (hv:∀x∈xs,(x.values.length:Int)≤1048576) :
 Calls Tryz.prog 189 #[.slice A xs.length c] w fun e w'=>∃v ds F',e = .returned v∧w'.ownsRow w.heap.size 89 3 v xs.length ds∧aY w' w.heap.size xs ds F'∧(∀g,v.ownBlock = some g→g∉F')∧Below w.heap.size w w':=by
 have HV:=I hv;clear hv;go_enter Tryz.func189,Tryz.ntmps189;go_wp2_with fail
 go_loopw [3,4] (fun v i wr=>∃(k:Nat) (ds:List Value) (F':List Nat),k≤xs.length∧i = .int .i64 k∧wr.ownsRow w.heap.size 89 3 v k ds∧aY wr w.heap.size (xs.take k) ds F'∧(∀g,v.ownBlock = some g→g∉F')∧Below w.heap.size w wr) (fun _ i _=>xs.length - (intOf i).toNat)
 case atStart=>exact ⟨0,[],[],Nat.zero_le _,rfl,World.ownsRow_made (size:=3) w #[] 0 (Nat.le_refl _) (Nat.zero_le _) S',aY.nil _ _,(fun g _ hm=>by cases hm),ak (aj _) _⟩
 case round =>
  obtain ⟨k,ds,F',hk,rfl,aR,hO,cq,aE⟩:=hrel;by_cases ap:k < xs.length
  ·obtain ⟨b,o,ck,Fk,rfl,o9,hbs,hr,iY,hc⟩:=(h.ext aE).get ap;obtain ⟨pX,pY,KG,aw,hF1,xO,j8,wO⟩:=og hr;subst aw;clear hF1 hr;obtain ⟨q0,q1,q2⟩:=iX 3 hc;clear hc;have hvl:=HV.out xs[k] (List.getElem_mem ap);obtain ⟨Av,cv,gN⟩:=mY aR;subst gN;have HO:=I aR;have HN:=I cq;have kD:=I aE;have Y6:=I hO.lt;clear aR cq aE;have uQ:=oG.new wr [.string xs[k].key,.int .i64 xs[k].op,.slice pX xs[k].values.length pY] 89
   have HM:=I (show ((wr.alloc (.cells ([.string xs[k].key,.int .i64 xs[k].op,.slice pX xs[k].values.length pY]:List Value).toArray 89)).alloc (.cells #[] 9)).ownsRow (wr.heap.size+1) 9 1 (.slice (some ⟨wr.heap.size+1,0,none⟩) 0 0) 0 [] from by
    have:=World.ownsRow_made (base:=wr.heap.size+1) (e:=9) (size:=1) (wr.alloc (.cells ([.string xs[k].key,.int .i64 xs[k].op,.slice pX xs[k].values.length pY]:List Value).toArray 89)) #[] 0 S' (Nat.zero_le _) S';rw [World.size_alloc] at this
    exact this)
   go_wp2_with (first
    | (at_builtin
       refine rW (o:=⟨some 20,_,_,_,_,_⟩) Ud X X _ _ X _ (wr.heap.size+1) _ 0 [] HM.out X xs[k].values pX pY _ (wO.ext (ak (ak (aj _) _) _)) X J J S' ?_;intro v2 w2 K8 G dq bv cA hg cI;go_must (obtain ⟨A2,c2,eE⟩:=mY cA)
       go_must (subst eE)
       go_must (simp only [Nat.zero_add,List.nil_append] at cA)
       go_must (have av:Below wr.heap.size wr w2:=lS (vP HM.out (Nat.le_succ _)) hg (ak (ak (aj _) _) _) (by simp;omega))
       go_must (have Br:oG w2 wr.heap.size [.string xs[k].key,.int .i64 xs[k].op,.slice pX xs[k].values.length pY]:=uQ.br ((hg.block _ (by simp;omega) Sa).trans (heap_alloc_old _ _ S')))
       go_must (have px:jo w2 xs[k].values K8 G:=dq.frame (fun b hb=>hg.block b (dq.lt b hb) (fun e=>by have:=(wO.lt b (bv b hb));simp [Value.ownBlock] at e;omega)) hg.size)
       go_must (obtain ⟨A3,c3,G3,kj,bN⟩:=am.dd P8 cA px)
       go_must (simp only [Value.slice.injEq,true_and] at kj)
       go_must (obtain ⟨rfl,rfl⟩:=kj)
       go_must (have k0:=Br.cell (i:=0) (u:=.string xs[k].key) rfl)
       go_must (have k1:=Br.cell (i:=1) (u:=.int .i64 xs[k].op) rfl)
       go_must (have k2:=Br.cell (i:=2) (u:=.slice pX xs[k].values.length pY) rfl)
       go_must (have kl:=Br.lt)
       go_must (have kf:=Br.fz 2)
       go_must (have D':am w2 (wr.heap.size+1) xs[k] [.string xs[k].key,.int .i64 xs[k].op,.slice A2 xs[k].values.length c2] G3:=am.up (B':=wr.heap.size+1) (fun x:ba=>(x.key,x.op,x.values)) (am.cons (c1:=[.string xs[k].key]) (cV _ _ (rV xO)) (am.cons (c1:=[.int .i64 xs[k].op]) (jL _ _ j8) bN)) (Nat.le_refl _))
       go_must (have hOs:=D'.setCell (p:=⟨wr.heap.size,2,none⟩) (Nat.lt_succ_self _) (.slice A2 xs[k].values.length c2))
       go_must (have bI:(w2.setCell ⟨wr.heap.size,2,none⟩ (.slice A2 xs[k].values.length c2)).ownsRow w.heap.size 89 3 (.slice Av k cv) k ds:=EJ (mG HO.out av) (fun g hg=>by have:=(HO.out.lt g hg).2;omega))
       go_must (have cT:aY (w2.setCell ⟨wr.heap.size,2,none⟩ (.slice A2 xs[k].values.length c2)) w.heap.size (xs.take k) ds F':=(hO.ext av).br (fun y hy=>Below.heap_setCell _ _ _ _ (by have:=hO.lt y hy;dsimp only;omega)) fd)
       go_must (have Tp:Below wr.heap.size wr (w2.setCell ⟨wr.heap.size,2,none⟩ (.slice A2 xs[k].values.length c2)):=aC av (Nat.le_refl _) _)
       go_must (have bu:=Br.put 2 (.slice A2 xs[k].values.length c2))
       go_must (have HOS:=I hOs)
       go_must (have HR:=I bI)
       go_must (have HC:=I cT)
       go_must (have HBS:=I Tp)
       go_must (have PJ:=Tp.size)
       go_must (clear D' bN dq px cA hO uQ Br hg cI av hOs cT Tp))
    | (at_builtin
       refine uf (o:=⟨some 25,_,_,_,_,_⟩) apf X _ _ X _ _ _ _ _ bI X [.string xs[k].key,.int .i64 xs[k].op,.slice A2 xs[k].values.length c2] jS X eu J J (by have:=kD.out.size;omega) ?_
       intro v4 w4 ev mr Wy uR))
   have aE:=kD.out;obtain ⟨rp,hne4⟩:=aY.PB (v':=v4) HR.out HC.out HN.out HOS.out (by have:=aE.size;omega) (fun g hg=>by have:=(HO.out.lt g hg).2;omega) (fun y hy=>by have:=Y6.out y hy;omega) mr uR;rw [← List.take_succ_eq_append_getElem ap] at rp;exact ⟨⟨k+1,_,_,J,N',ev,rp,hne4,lS (vP HR.out (Nat.le_refl _)) mr (ah aE HBS.out) (by have:=aE.size;omega)⟩,by simp [intOf];omega⟩
  ·have bx:k = xs.length:=J;subst bx;rw [List.take_length] at hO;obtain ⟨Ah,ch,hvh⟩:=mY aR;subst hvh;have HO:=I aR;clear aR;go_wp2;go_ret
   exact ⟨_,ds,F',rfl,HO.out,hO,cq,aE⟩
theorem PK (xs:List ba) (A:Option Addr) (c:Nat) (F:List Nat) (w:World) (h:Sl w xs A c F) (hl:(xs.length:Int)≤1048576) (hv:∀x∈xs,(x.values.length:Int)≤1048576) :
 Calls Tryz.prog 189 #[.slice A xs.length c] w fun e w'=>∃A' c' F',e = .returned (.slice A' xs.length c')∧am w' w.heap.size xs [.slice A' xs.length c'] F'∧Below w.heap.size w w' :=
 (ayq xs A c F w h hl hv).mono fun e w' ⟨v,ds,F',he,aR,hO,cq,hb⟩=>by
  obtain ⟨Ah,ch,Gh,rfl,Xp⟩:=am.oJ aR hO cq;exact ⟨_,_,_,he,Xp,hb⟩
end Go.Proofs.YtjahcnjmjahbaaaGreat
