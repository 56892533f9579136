/- A call's argument box, its result's box, and a copy that is turned. No condition. -/
import Derived.Test.YtjahcnjmjahbaaaGreatUsedP
import Derived.Test.YtjahcnjmjahbaaaGreatRegionCut
namespace Go.Proofs.YtjahcnjmjahbaaaGreat
open Go.ChangeShapes Go.WideShapes Go.ChangeAt Go.RowKit
set_option linter.unusedVariables false
set_option linter.unusedSimpArgs false
set_option maxHeartbeats 2000000
set_option maxRecDepth 100000
structure rB (w wk:World) (cs zs os:List Value):Prop where
 box:oG wk w.heap.size cs
 rb:oG wk (w.heap.size+1) zs
 ob:oG wk (w.heap.size+1+1) os
 below:Below w.heap.size w wk
section
variable {w wk w':World} {cs zs os:List Value}
theorem rB.new (w:World) (cs zs os:List Value) (t t2 t3:TypeId):rB w (((w.alloc (.cells cs.toArray t)).alloc (.cells zs.toArray t2)).alloc (.cells os.toArray t3)) cs zs os :=
 ⟨((oG.new w cs t).ext (ak (aj _) _)).ext (ak (aj _) _),(by have:=oG.new (w.alloc (.cells cs.toArray t)) zs t2;rw [World.size_alloc] at this;exact this.ext (ak (aj _) _)),(by have:=oG.new ((w.alloc (.cells cs.toArray t)).alloc (.cells zs.toArray t2)) os t3;rw [World.size_alloc,World.size_alloc] at this;exact this),ak (ak (ak (aj _) _) _) _⟩
theorem rB.ext (h:rB w wk cs zs os) (hb:Below wk.heap.size wk w'):rB w w' cs zs os:=⟨h.box.ext hb,h.rb.ext hb,h.ob.ext hb,ah h.below hb⟩
theorem rB.put (h:rB w wk cs zs os) (i:Nat) (u:Value):rB w (wk.setCell ⟨w.heap.size+1+1,i,none⟩ u) cs zs (os.set i u):=⟨h.box.br J i u,h.rb.br J i u,h.ob.put i u,aC h.below bv u⟩
end
theorem SJ {α:Type} [bd α] {w w':World} {x:α} {cs:List Value} {F:List Nat} (h:rd w x cs F) (hb:Below w.heap.size w w'):rd w' x cs F:=bd.frame h (λb d8=>hb.block b (bd.lt h b d8)) hb.size
theorem rQ {w w':World} {B e size n b:Nat} {v:Value} {xs:List Value} (h:w.ownsRow B e size v n xs) (hu:nN [b] w w') (hb:b < B):w'.ownsRow B e size v n xs :=
 h.kept (row:=some b) ⟨hu.os,hu.tape,hu.output,hu.size,λk hk bN=>hu.block k hk (by simpa using λe=>bN (by rw [e]))⟩ (by
   by_cases hv:v.ownBlock = some b
   ·have:=(h.lt b hv).1;omega
   ·exact .inr hv)
theorem nN.alloc {F:List Nat} {w w1:World} (h:nN F w w1) (o:Obj):nN F w (w1.alloc o):=h.trans (nN.lq F (ak (aj _) o))
theorem fV (b:Nat):∀(vs:List Value) (o:Nat) (w:World),(w.setCells b o vs).heap.size = w.heap.size
 | [],_,_=>rfl
 | v :: r,o,w=>by rw [World.setCells,fV b r];simp [World.setCell]
theorem vV (b:Nat) {k:Nat} (hk:k≠b):∀(vs:List Value) (o:Nat) (w:World),(w.setCells b o vs).heap[k]? = w.heap[k]?
 | [],_,_=>rfl
 | v :: r,o,w=>by rw [World.setCells,vV b hk r];exact Below.heap_setCell _ _ _ _ bv
theorem F8 (b:Nat):∀(vs:List Value) (o:Nat) (w:World),(w.setCells b o vs).os = w.os/\(w.setCells b o vs).tape = w.tape/\(w.setCells b o vs).output = w.output
 | [],_,_=>⟨rfl,rfl,rfl⟩
 | v :: r,o,w=>by rw [World.setCells];exact F8 b r (o+1) _
theorem EK (b:Nat):∀(vs:List Value) (o:Nat) (w:World),Plain w b->Plain (w.setCells b o vs) b
 | [],_,_,h=>h
 | v :: r,o,w,h=>by rw [World.setCells];exact EK b r (o+1) _ (h.setCell b o v)
theorem anQ:(Tryz.prog.info? 57).map (λi=>(i.zero,i.size,i.bytes)) = some (some ((.agg #[.string ⟨#[]⟩,.string ⟨#[]⟩])),2,32):=by kernel_rfl
theorem afn:DL Tryz.prog 35 57 ((.agg #[.string ⟨#[]⟩,.string ⟨#[]⟩])) 2 32:=⟨Tryz.underlying35,anQ,rfl,J⟩
theorem acO {w:World} {x:ao} {cs:List Value} {F:List Nat} (h:rd w x cs F):F = []:=by obtain ⟨_,hF,_⟩:=vO h;exact hF
theorem anR:(Tryz.prog.info? 84).map (λi=>(i.zero,i.size,i.bytes)) = some (some ((.agg #[.string ⟨#[]⟩,.string ⟨#[]⟩,.int .i64 0])),3,40):=by kernel_rfl
theorem alP:DL Tryz.prog 36 84 ((.agg #[.string ⟨#[]⟩,.string ⟨#[]⟩,.int .i64 0])) 3 40:=⟨Tryz.underlying36,anR,rfl,J⟩
theorem aiH {w:World} {x:iU} {cs:List Value} {F:List Nat} (h:rd w x cs F):F = []:=by obtain ⟨_,hF,_⟩:=oK h;exact hF
theorem afp:(Tryz.prog.info? 91).map (λi=>(i.zero,i.size,i.bytes)) = some (some ((.agg #[.string ⟨#[]⟩,.bool false,.string ⟨#[]⟩,.int .i64 0])),4,48):=by kernel_rfl
theorem abo:DL Tryz.prog 44 91 ((.agg #[.string ⟨#[]⟩,.bool false,.string ⟨#[]⟩,.int .i64 0])) 4 48:=⟨Tryz.underlying44,afp,rfl,J⟩
theorem Y5 (xs:List bH) (A:Option Addr) (c:Nat) (F:List Nat) (w:World) (h:Sl w xs A c F) (hl:(xs.length:Int)<=1048576) :
 Calls Tryz.prog 147 #[.slice A xs.length c] w λe w'=>∃A' c' ds G,e = .returned (.slice A' xs.length c')/\w'.ownsRow w.heap.size 91 4 (.slice A' xs.length c') xs.length ds/\jo w' xs ds G/\(∀b∈G,b∈F)/\Below w.heap.size w w':=by
 cases A with
 | none =>
   obtain rfl:xs = []:=by
    obtain ⟨A',c',G,ds,e0,_,_,_,h0⟩:=h;simp only [List.cons.injEq,Value.slice.injEq,and_true,true_and] at e0;rcases h0 with h0 | ⟨b,o,hA,_⟩
    ·exact h0.1
    ·rw [<- e0.1] at hA;cases hA
   have q22:∀(w:World) (a:Option Addr) (n c n' c':Nat),(binOp .eql 44 (.slice a n c) (.slice none n' c')).run Tryz.prog w = .ok (.bool a.isNone) w:=λw a n c n' c'=>Lib.run_eql_slice_nil w _ _ a n c n' c' Tryz.underlying44;go_enter Tryz.func147,Tryz.ntmps147;go_wp2;go_ret
   exact ⟨none,0,[],[],rfl,World.ownsRow_nil w _ _ _,⟨rfl,rfl⟩,(λb hb=>by cases hb),aj _⟩
 | some ad =>
   have H:=I h;clear h;have q22:∀(w:World) (a:Option Addr) (n c n' c':Nat),(binOp .eql 44 (.slice a n c) (.slice none n' c')).run Tryz.prog w = .ok (.bool a.isNone) w:=λw a n c n' c'=>Lib.run_eql_slice_nil w _ _ a n c n' c' Tryz.underlying44;go_enter Tryz.func147,Tryz.ntmps147
   go_wp2_with (
    at_builtin
    go_must (refine rW abo J' J' _ _ J' _ w.heap.size _ 0 [] (World.ownsRow_made (size:=4) w #[] 0 (Nat.le_refl _) (Nat.zero_le _) S') J' xs (some ad) c F (H.out.ext (ak (aj _) _)) J' J J S' ?_)
    intro v2 w2 ds G de bm ar hg cD;go_must (obtain ⟨A2,c2,dt⟩:=mY ar)
    go_must (subst dt))
   simp only [Nat.zero_add,List.nil_append] at ar;go_ret
   refine ⟨A2,c2,ds,G,S',ar,de.frame (λb hb=>hg.block b (de.lt b hb) (λe=>?_)) hg.size,bm,lS (World.ownsRow_made (e:=91) (size:=4) w #[] 0 (Nat.le_refl _) (Nat.zero_le _) S') hg (ak (aj _) _) S'⟩;have h1:=H.out.lt b (bm b hb);simp [Value.ownBlock] at e;omega
theorem Zk {w:World} {x:bH} {cs:List Value} {F:List Nat} (h:rd w x cs F):F = []:=by obtain ⟨_,hF,_⟩:=jv h;exact hF
theorem Xj:(Tryz.prog.info? 9).map (λi=>(i.zero,i.size,i.bytes)) = some (some (.string ⟨#[]⟩),1,16):=by kernel_rfl
theorem Ud:DL Tryz.prog 61 9 (.string ⟨#[]⟩) 1 16:=⟨Tryz.underlying61,Xj,rfl,J⟩
theorem P8 {w:World} {x:ByteArray} {cs:List Value} {F:List Nat} (h:rd w x cs F):F = []:=h.2.1
theorem apQ:(Tryz.prog.info? 89).map (λi=>(i.zero,i.size,i.bytes)) = some (some ((.agg #[.string ⟨#[]⟩,.int .i64 0,.slice none 0 0])),3,48):=by kernel_rfl
theorem apf:DL Tryz.prog 43 89 ((.agg #[.string ⟨#[]⟩,.int .i64 0,.slice none 0 0])) 3 48:=⟨Tryz.underlying43,apQ,rfl,J⟩
instance:bd UInt8 where
 size:=1
 pos:=by omega
 rd _ n cs F:=cs = [.int .u8 (n.toNat:Int)]/\F = []
 len h:=by rw [h.1];rfl
 one h:=by rw [h.1];intro u hu;simp at hu;subst hu;rfl
 lt h:=by rw [h.2];intro b hb;cases hb
 frame h _ _:=h
theorem aBV {P:Program} {t:TypeId} (ht:P.underlying t = some (.int .u8)):tA P t UInt8:=by
 intro H enc w base fc spare held cs d h;obtain ⟨n,rfl,_,hw⟩:=DataW.trod_int ht h;have h2:0<=n/\n<=255:=by
  have:=hw;simp [Lit.wf,IntKind.min,IntKind.max,IntKind.signed,IntKind.bits] at this;exact this
 refine ⟨UInt8.ofNat n.toNat,[],?_,rfl⟩;have e:((UInt8.ofNat n.toNat).toNat:Int) = n:=by
  have h3:(UInt8.ofNat n.toNat).toNat = n.toNat % 256:=by simp
  rw [h3];omega
 rw [e]
def cj (w:World) (c:Nat) (A:Option Addr) (n cap:Nat):Prop :=
 (∃(i h:Int) (t:TypeId),w.heap[c]? = some (.cells #[.slice A n cap,.int .i64 i,.int .i64 h] t (0,0))/\(0<=i/\i<=n)/\aR h) /\
 (∀k,k < n->∃(g o:Nat) (v:Int),A = some ⟨g,o,none⟩/\g < c/\w.cell? ⟨g,o+k,none⟩ = some (.int .u8 v)/\0<=v/\v<=255)/\(n:Int)<=1048576
section
variable {w w':World} {c:Nat} {A:Option Addr} {n cap:Nat}
theorem cj.lt (h:cj w c A n cap):c < w.heap.size:=by
 obtain ⟨⟨i,x,t,h,_⟩,_⟩:=h;rcases Nat.lt_or_ge c w.heap.size with am | iN
 ·exact am
 ·rw [Array.getElem?_eq_none iN] at h;cases h
theorem cj.ext (h:cj w c A n cap) (hb:Below w.heap.size w w'):cj w' c A n cap:=by
 have am:=h.lt;obtain ⟨⟨i,x,t,h1,h2⟩,h3,h4⟩:=h;refine ⟨⟨i,x,t,(hb.block c am).trans h1,h2⟩,λk hk=>?_,h4⟩;obtain ⟨g,o,v,e,hg,hc,hv⟩:=h3 k hk;exact ⟨g,o,v,e,hg,(World.cell?_of_block (hb.block g J)).trans hc,hv⟩
theorem cj.drew (h:cj w c A n cap):cj w.drew c A n cap:=h.ext (aA (aj _))
theorem cj.br (h:cj w c A n cap) {b:Nat} (hb:c < b) (i:Nat) (u:Value):cj (w.setCell ⟨b,i,none⟩ u) c A n cap:=by
 obtain ⟨⟨j,x,t,h1,h2⟩,h3,h4⟩:=h;refine ⟨⟨j,x,t,(Below.heap_setCell _ _ _ _ bv).trans h1,h2⟩,λk hk=>?_,h4⟩;exact Dd
theorem cj.place (h:cj w c A n cap) {i:Int} (hi:0<=i/\i<=n):cj (w.setCell ⟨c,1,none⟩ (.int .i64 i)) c A n cap:=by
 obtain ⟨⟨j,x,t,h1,h2⟩,h3,h4⟩:=h;refine ⟨⟨i,x,t,by simp [World.setCell,Array.getElem?_modify,h1],hi,h2.2⟩,λk hk=>?_,h4⟩;exact Dd
theorem cj.number (h:cj w c A n cap) {x:Int} (hx:aR x):cj (w.setCell ⟨c,2,none⟩ (.int .i64 x)) c A n cap:=by
 obtain ⟨⟨j,y,t,h1,h2⟩,h3,h4⟩:=h;refine ⟨⟨j,x,t,by simp [World.setCell,Array.getElem?_modify,h1],h2.1,hx⟩,λk hk=>?_,h4⟩;exact Dd
theorem cj.cells (h:cj w c A n cap):∃i x:Int,(0<=i/\i<=n)/\aR x/\w.cell? ⟨c,0,none⟩ = some (.slice A n cap)/\w.cell? ⟨c,1,none⟩ = some (.int .i64 i)/\w.cell? ⟨c,2,none⟩ = some (.int .i64 x)/\∀k,w.frozen? ⟨c,k,none⟩ = false:=by
 obtain ⟨⟨i,x,t,h,h2⟩,_⟩:=h;refine ⟨i,x,h2.1,h2.2,?_,?_,?_,λk=>by simp [World.frozen?,h]⟩
 ·rw [cell_of_row w c 0 _ t (0,0) h];rfl
 ·rw [cell_of_row w c 1 _ t (0,0) h];rfl
 ·rw [cell_of_row w c 2 _ t (0,0) h];rfl
theorem cj.byte (h:cj w c A n cap) {k:Nat} (hk:k < n):∃(g o:Nat) (v:Int),A = some ⟨g,o,none⟩/\g < c/\w.cell? ⟨g,o+k,none⟩ = some (.int .u8 v)/\0<=v/\v<=255:=h.2.1 k hk
theorem cj.small (h:cj w c A n cap):(n:Int)<=1048576:=h.2.2
end
structure Roomy (α:Type) where
 l:List α
 t:TypeId
instance {α:Type} [bd α]:bd (Roomy α) where
 size:=1
 pos:=by omega
 rd w x cs F:=rd w x.l cs F/\((x.l = []/\cs = [.slice none 0 0])∨∃g c bp G,x.l≠[]/\cs = [.slice (some ⟨g,0,none⟩) x.l.length c]/\F = g :: G/\w.heap[g]? = some (.cells bp x.t (0,0))/\bp.size = c * bd.size α)
 len h:=bd.len h.1
 one h:=bd.one h.1
 lt h:=bd.lt h.1
 frame h hk hz:=⟨bd.frame h.1 hk hz,by
  rcases h.2 with h2 | ⟨g,c,bp,G,h0,h1,h2,h3,h4⟩
  ·exact .inl h2
  ·exact .inr ⟨g,c,bp,G,h0,h1,h2,(hk g (by rw [h2];exact List.mem_cons_self ..)).trans h3,h4⟩⟩
section
variable {α:Type} [bd α] {w:World} {B:Nat} {xs:List α} {ds:List Value} {F:List Nat}
theorem ai.list {cs:List Value} {t:TypeId} (h:ai w B (Roomy.mk xs t) cs F):ai w B xs cs F:=⟨h.rd.1,h.nodup,h.base,h.plain⟩
theorem ai.ayX {e:TypeId} {v:Value} (h0:w.ownsRow B e (bd.size α) v xs.length ds) (h:aY w B xs ds F) (bN:∀g,v.ownBlock = some g->g∉F) (hv:xs.length = 0->v = .slice none 0 0):∃A c G,v = .slice A xs.length c/\ai w B (Roomy.mk xs e) [.slice A xs.length c] G:=by
 obtain ⟨A,c,G,hA,hO⟩:=ai.oJ h0 h bN;refine ⟨A,c,G,hA,⟨⟨hO.rd,?_⟩,hO.nodup,hO.base,hO.plain⟩⟩;by_cases hx:xs = []
 ·left;have:=hv (by rw [hx];rfl);rw [this] at hA;exact ⟨hx,by rw [hA]⟩
 ·right;rcases h0.2 with ⟨_,hn⟩ | ⟨g,cap,bp,h1,h2,h3,h4,h5,h6,h7⟩
  ·exact absurd (List.eq_nil_of_length_eq_zero hn) hx
  ·rw [hA] at h1;simp only [Value.slice.injEq,true_and] at h1;obtain ⟨rfl,rfl⟩:=h1;obtain ⟨A',c',G',ds',e0,_,_,_,h8⟩:=hO.rd;simp only [List.cons.injEq,Value.slice.injEq,and_true,true_and] at e0;obtain ⟨rfl,rfl⟩:=e0;rcases h8 with ⟨h9,_⟩ | ⟨b,o,hb,rfl,_,_⟩
   ·exact absurd h9 hx
   ·simp only [Option.some.injEq,Addr.mk.injEq,and_true] at hb;obtain ⟨rfl,rfl⟩:=hb;exact ⟨g,c,bp,G',hx,rfl,rfl,h3,h6⟩
theorem ai.ph {t:TypeId} {A:Option Addr} {c:Nat} (h:ai w B (Roomy.mk xs t) [.slice A xs.length c] F):∃ds G,w.ownsRow B t (bd.size α) (.slice A xs.length c) xs.length ds/\aY w B xs ds G/\(∀g,(Value.slice A xs.length c).ownBlock = some g->g∉G)/\(∀b∈G,b∈F):=by
 obtain ⟨⟨A',c',G,ds,e0,hl,hm,hc,h0⟩,h2⟩:=h.rd;simp only [List.cons.injEq,Value.slice.injEq,and_true,true_and] at e0;obtain ⟨rfl,rfl⟩:=e0;rcases h2 with ⟨hx,he⟩ | ⟨g,c',bp,G',hx0,he,hF,hg,hs⟩
 ·simp only at hx;subst hx;simp only [List.length_nil,List.cons.injEq,Value.slice.injEq,and_true,true_and] at he;obtain ⟨rfl,rfl⟩:=he;exact ⟨[],[],⟨S',.inl ⟨rfl,rfl⟩⟩,aY.nil w B,(λg hg=>by cases hg),(λb hb=>by cases hb)⟩
 ·simp only [List.cons.injEq,Value.slice.injEq,and_true,true_and] at he;obtain ⟨rfl,rfl⟩:=he;rcases h0 with ⟨hx,qp⟩ | ⟨b,o,hb,kt,am,cf⟩
  ·rw [qp] at hF;cases hF
  ·simp only [Option.some.injEq,Addr.mk.injEq,and_true] at hb;obtain ⟨rfl,rfl⟩:=hb;subst kt;have hn:=List.nodup_cons.1 h.nodup;have ga:ds.length = xs.length * bd.size α:=hc.len;refine ⟨ds,G,⟨ga,.inr ⟨g,c,bp,rfl,h.base g (List.mem_cons_self ..),hg,hl,hm,hs,?_⟩⟩,⟨hc,hn.2,λb hb=>h.base b (List.mem_cons_of_mem _ hb),λb hb=>h.plain b (List.mem_cons_of_mem _ hb)⟩,(λq hq=>by simp only [Value.ownBlock,Option.some.injEq] at hq;subst hq;exact hn.1),λb hb=>List.mem_cons_of_mem _ hb⟩;apply List.ext_getElem?;intro j;rw [List.getElem?_take];by_cases hj:j < xs.length * bd.size α
   ·rw [if_pos hj];have hd:ds[j]? = some ds[j]:=List.getElem?_eq_getElem J;have:=cf j _ hd;rw [Nat.zero_add,cell_of_row w g j bp t (0,0) hg] at this;rw [hd,<- this];simp
   ·rw [if_neg hj,List.getElem?_eq_none J]
theorem ai.room {t:TypeId} {v:Value} {G:List Nat} (h:ai w B xs [v] F) (hr:Go.Proofs.YtjahcnjmjahbaaaGreat.bd.rd w (Roomy.mk xs t) [v] G):ai w B (Roomy.mk xs t) [v] F:=by
 refine ⟨⟨h.rd,?_⟩,h.nodup,h.base,h.plain⟩;rcases hr.2 with h1 | ⟨g,c,bp,G',h0,h1,h2,h3,h4⟩
 ·exact .inl h1
 ·refine .inr ⟨g,c,bp,?_⟩;obtain ⟨A',c',G2,ds,e0,hl,hm,hc,h5⟩:=h.rd;rcases h5 with ⟨hx,_⟩ | ⟨b,o,hb,hF,_,_⟩
  ·exact absurd hx h0
  ·subst hb;rw [e0] at h1;simp only [List.cons.injEq,Value.slice.injEq,Option.some.injEq,Addr.mk.injEq,and_true,true_and] at h1;refine ⟨G2,h0,?_,?_,h3,h4⟩
   ·rw [e0,h1.1.1,h1.1.2,h1.2]
   ·rw [hF,h1.1.1]
end
def O1 (x:aU) (w:World) (cs:List Value):Prop:=∃Ah ch Ap cp Gh Gp rest,cs = .slice Ah x.aa.length ch :: .slice Ap x.O.length cp :: rest/\Go.Proofs.YtjahcnjmjahbaaaGreat.bd.rd w (Roomy.mk x.aa 38) [.slice Ah x.aa.length ch] Gh/\Go.Proofs.YtjahcnjmjahbaaaGreat.bd.rd w (Roomy.mk x.O 48) [.slice Ap x.O.length cp] Gp
def eK (w:World) (B:Nat) (e:TypeId) (size:Nat) (A:Option Addr) (c:Nat):Prop :=
 (A = none/\c = 0)∨∃g bp,A = some ⟨g,0,none⟩/\B<=g/\w.heap[g]? = some (.cells bp e (0,0))/\c<=maxLen/\bp.size = c * size
section
variable {w w':World} {B size c:Nat} {e:TypeId} {A:Option Addr}
theorem eK.oJ {B' n m:Nat} {xs:List Value} (h:w.ownsRow B' e size (.slice A n c) m xs) (hB:B<=B'):eK w B e size A c:=by
 rcases h.2 with ⟨h1,_⟩ | ⟨g,cap,bp,h1,h2,h3,h4,h5,h6,_⟩
 ·simp only [Value.slice.injEq] at h1;exact .inl ⟨h1.1,h1.2.2⟩
 ·simp only [Value.slice.injEq] at h1;obtain ⟨rfl,_,rfl⟩:=h1;exact .inr ⟨g,bp,rfl,Nat.le_trans hB h2,h3,h5,h6⟩
theorem eK.ext (h:eK w B e size A c) (hb:Below w.heap.size w w'):eK w' B e size A c:=by
 rcases h with h | ⟨g,bp,h1,h2,h3,h4⟩
 ·exact .inl h
 ·have hg:g < w.heap.size:=by
   exact Di
  exact .inr ⟨g,bp,h1,h2,(hb.block g hg).trans h3,h4⟩
theorem eK.drawn {b:Nat} (h:eK w B e size A c) (hu:nN [b] w w') (hb:b < B):eK w' B e size A c:=by
 rcases h with h | ⟨g,bp,h1,h2,h3,h4⟩
 ·exact .inl h
 ·have hg:g < w.heap.size:=by
   exact Di
  exact .inr ⟨g,bp,h1,h2,(hu.block g hg (by simp;omega)).trans h3,h4⟩
theorem eK.mono {B':Nat} (h:eK w B e size A c) (hB:B'<=B):eK w B' e size A c:=by
 rcases h with h | ⟨g,bp,h1,h2,h3⟩
 ·exact .inl h
 ·exact .inr ⟨g,bp,h1,Nat.le_trans hB h2,h3⟩
theorem eK.lt (h:eK w B e size A c):∀g,A = some ⟨g,0,none⟩->g < w.heap.size:=by
 rintro g rfl;rcases h with ⟨h,_⟩ | ⟨g,bp,h1,h2,h3,h4⟩
 ·cases h
 ·simp only [Option.some.injEq,Addr.mk.injEq,and_true] at h1;subst h1;exact Di
theorem eK.keep (h:eK w B e size A c) (hk:∀g,A = some ⟨g,0,none⟩->w'.heap[g]? = w.heap[g]?):eK w' B e size A c:=by
 rcases h with h | ⟨g,bp,h1,h2,h3,h4⟩
 ·exact .inl h
 ·exact .inr ⟨g,bp,h1,h2,(hk g h1).trans h3,h4⟩
theorem eK.br {b:Nat} (h:eK w B e size A c) (hb:b < B) (j:Nat) (v:Value):eK (w.setCell ⟨b,j,none⟩ v) B e size A c:=by
 rcases h with h | ⟨g,bp,h1,h2,h3,h4⟩
 ·exact .inl h
 ·exact .inr ⟨g,bp,h1,h2,(Below.heap_setCell _ _ _ _ bv).trans h3,h4⟩
end
section
variable {β:Type} {row:β->List Value} {S:Nat}
def rz (row:β->List Value) (S:Nat) (w:World) (b o:Nat) (D:List β):Prop:=∀k x,D[k]? = some x->∀j u,(row x)[j]? = some u->w.cell? ⟨b,o+k * S+j,none⟩ = some u
theorem rz.put {w:World} {b o:Nat} {D:List β} (h:rz row S w b o D) (hS:∀x,(row x).length = S) {i:Nat} (hi:i < D.length) (y:β):rz row S (w.setCells b (o+i * S) (row y)) b o (D.set i y):=by
 intro k x hk j u hj;have DE:j < S:=by rw [<- hS x];exact (List.getElem?_eq_some_iff.1 hj).1
 have hex:∀q,q < (row y).length->(w.cell? ⟨b,o+i * S+q,none⟩).isSome = true:=λq hq=>by
  rw [hS] at hq;have hx:=h i D[i] (List.getElem?_eq_getElem hi) q ((row D[i])[q]'(by rw [hS];exact hq)) (List.getElem?_eq_getElem _);rw [hx];rfl
 by_cases hik:i = k
 ·subst hik;rw [List.getElem?_set_self hi] at hk;obtain rfl:=Option.some.inj hk;have:=World.cell?_setCells_in b (row y) (o+i * S) w hex j (by rw [hS];exact DE);rw [this,<- hj];exact (List.getElem?_eq_getElem _).symm
 ·rw [List.getElem?_set_ne hik] at hk;rw [World.cell?_setCells_out b _ _ _ _ (λ_ _=>?_)]
  ·exact h k x hk j u hj
  ·dsimp only;rw [hS];rcases Nat.lt_or_gt_of_ne hik with h1 | h1
   ·right;have:(i+1) * S<=k * S:=Nat.mul_le_mul_right _ h1;rw [Nat.succ_mul] at this;omega
   ·left;have:(k+1) * S<=i * S:=Nat.mul_le_mul_right _ h1;rw [Nat.succ_mul] at this;omega
theorem rz.at_ {w:World} {b o:Nat} {D:List β} (h:rz row S w b o D) {k:Nat} (hk:k < D.length) {j:Nat} {u:Value} (hj:(row D[k])[j]? = some u):w.cell? ⟨b,o+k * S+j,none⟩ = some u:=h k D[k] (List.getElem?_eq_getElem hk) j u hj
theorem rz.keep {w w':World} {b o:Nat} {D:List β} (h:rz row S w b o D) (hk:w'.heap[b]? = w.heap[b]?):rz row S w' b o D:=λk x hx j u hj=>(World.cell?_of_block hk).trans (h k x hx j u hj)
theorem rz.ext {w w':World} {b o:Nat} {D:List β} (h:rz row S w b o D) (hb:b < w.heap.size) (he:Below w.heap.size w w'):rz row S w' b o D:=h.keep (he.block b hb)
structure jJ (row:β->List Value) (S:Nat) (w0 w:World) (b o:Nat) (D:List β):Prop where
 tab:rz row S w b o D
 plain:Plain w b
 bE:nN [b] w0 w
theorem jJ.ext {w0 w w':World} {b o:Nat} {D:List β} (h:jJ row S w0 w b o D) (he:Below w.heap.size w w'):jJ row S w0 w' b o D :=
 ⟨h.tab.ext h.plain.lt he,by obtain ⟨ds,t,hp⟩:=h.plain;exact ⟨ds,t,(he.block b h.plain.lt).trans hp⟩,h.bE.trans (nN.lq _ he)⟩
theorem jJ.put {w0 w:World} {b o:Nat} {D:List β} (h:jJ row S w0 w b o D) (hS:∀x,(row x).length = S) {i:Nat} (hi:i < D.length) (y:β):jJ row S w0 (w.setCells b (o+i * S) (row y)) b o (D.set i y):=by
 refine ⟨h.tab.put hS hi y,EK b _ _ _ h.plain,?_⟩;have e:=F8 b (row y) (o+i * S) w;exact h.bE.trans ⟨e.1,e.2.1,e.2.2,by rw [fV];exact Nat.le_refl _,λk _ hk=>vV b Tx _ _ _⟩
end
theorem ayq (xs:List aE) (A:Option Addr) (c:Nat) (F:List Nat) (w:World) (h:Sl w xs A c F) (hl:(xs.length:Int)<=1048576) (hv:∀x∈xs,(x.values.length:Int)<=1048576) :
 Calls Tryz.prog 189 #[.slice A xs.length c] w λe w'=>∃v ds F',e = .returned v/\w'.ownsRow w.heap.size 89 3 v xs.length ds/\aY w' w.heap.size xs ds F'/\(∀g,v.ownBlock = some g->g∉F')/\Below w.heap.size w w':=by
 have HV:=I hv;clear hv;go_enter Tryz.func189,Tryz.ntmps189;go_wp2_with fail
 go_loopw [3,4] (λv i wr=>∃(k:Nat) (ds:List Value) (F':List Nat),k<=xs.length/\i = .int .i64 k/\wr.ownsRow w.heap.size 89 3 v k ds/\aY wr w.heap.size (xs.take k) ds F'/\(∀g,v.ownBlock = some g->g∉F')/\Below w.heap.size w wr) (λ_ i _=>xs.length - (intOf i).toNat)
 case atStart=>exact ⟨0,[],[],Nat.zero_le _,rfl,World.ownsRow_made (size:=3) w #[] 0 (Nat.le_refl _) (Nat.zero_le _) S',aY.nil _ _,(λg _ hm=>by cases hm),ak (aj _) _⟩
 case round =>
  obtain ⟨k,ds,F',hk,rfl,ar,hO,bN,ax⟩:=hrel;by_cases am:k < xs.length
  ·obtain ⟨b,o,ck,Fk,rfl,o9,hbs,hr,ju,hc⟩:=(h.ext ax).get am;obtain ⟨pX,pY,KG,aq,hF1,xO,kv,wO⟩:=og hr;subst aq;clear hF1 hr;obtain ⟨q0,q1,q2⟩:=iX 3 hc;clear hc;have hvl:=HV.out xs[k] (List.getElem_mem am);obtain ⟨Av,cv,hJ⟩:=mY ar;subst hJ;have HO:=I ar;have HN:=I bN;have uZ:=I ax;have Y6:=I hO.lt;clear ar bN ax;have qi:=oG.new wr [.string xs[k].key,.int .i64 xs[k].op,.slice pX xs[k].values.length pY] 89
   have HM:=I (show ((wr.alloc (.cells ([.string xs[k].key,.int .i64 xs[k].op,.slice pX xs[k].values.length pY]:List Value).toArray 89)).alloc (.cells #[] 9)).ownsRow (wr.heap.size+1) 9 1 (.slice (some ⟨wr.heap.size+1,0,none⟩) 0 0) 0 [] from by
    have:=World.ownsRow_made (base:=wr.heap.size+1) (e:=9) (size:=1) (wr.alloc (.cells ([.string xs[k].key,.int .i64 xs[k].op,.slice pX xs[k].values.length pY]:List Value).toArray 89)) #[] 0 S' (Nat.zero_le _) S';rw [World.size_alloc] at this
    exact this)
   go_wp2_with (first
    | (at_builtin
       refine rW (o:=⟨some 20,_,_,_,_,_⟩) Ud J' J' _ _ J' _ (wr.heap.size+1) _ 0 [] HM.out J' xs[k].values pX pY _ (wO.ext (ak (ak (aj _) _) _)) J' J J S' ?_;intro v2 w2 XG G de bm bR hg cD;go_must (obtain ⟨A2,c2,dt⟩:=mY bR)
       go_must (subst dt)
       go_must (simp only [Nat.zero_add,List.nil_append] at bR)
       go_must (have ap:Below wr.heap.size wr w2:=lS (vP HM.out (Nat.le_succ _)) hg (ak (ak (aj _) _) _) (by simp;omega))
       go_must (have El:oG w2 wr.heap.size [.string xs[k].key,.int .i64 xs[k].op,.slice pX xs[k].values.length pY]:=qi.keep ((hg.block _ (by simp;omega) Wl).trans (heap_alloc_old _ _ S')))
       go_must (have ri:jo w2 xs[k].values XG G:=de.frame (λb hb=>hg.block b (de.lt b hb) (λe=>by have:=(wO.lt b (bm b hb));simp [Value.ownBlock] at e;omega)) hg.size)
       go_must (obtain ⟨A3,c3,G3,kF,bA⟩:=ai.of_flat P8 bR ri)
       go_must (simp only [Value.slice.injEq,true_and] at kF)
       go_must (obtain ⟨rfl,rfl⟩:=kF)
       go_must (have k0:=El.cell (i:=0) (u:=.string xs[k].key) rfl)
       go_must (have k1:=El.cell (i:=1) (u:=.int .i64 xs[k].op) rfl)
       go_must (have k2:=El.cell (i:=2) (u:=.slice pX xs[k].values.length pY) rfl)
       go_must (have kl:=El.lt)
       go_must (have kf:=El.fz 2)
       go_must (have Ix:ai w2 (wr.heap.size+1) xs[k] [.string xs[k].key,.int .i64 xs[k].op,.slice A2 xs[k].values.length c2] G3:=ai.up (B':=wr.heap.size+1) (λx:aE=>(x.key,x.op,x.values)) (ai.cons (c1:=[.string xs[k].key]) (rdStr _ _ (rV xO)) (ai.cons (c1:=[.int .i64 xs[k].op]) (jL _ _ kv) bA)) (Nat.le_refl _))
       go_must (have hOs:=Ix.setCell (p:=⟨wr.heap.size,2,none⟩) (Nat.lt_succ_self _) (.slice A2 xs[k].values.length c2))
       go_must (have bz:(w2.setCell ⟨wr.heap.size,2,none⟩ (.slice A2 xs[k].values.length c2)).ownsRow w.heap.size 89 3 (.slice Av k cv) k ds:=EJ (mG HO.out ap) (λg hg=>by have:=(HO.out.lt g hg).2;omega))
       go_must (have bS:aY (w2.setCell ⟨wr.heap.size,2,none⟩ (.slice A2 xs[k].values.length c2)) w.heap.size (xs.take k) ds F':=(hO.ext ap).keep (λy hy=>Below.heap_setCell _ _ _ _ (by have:=hO.lt y hy;dsimp only;omega)) d9)
       go_must (have XH:Below wr.heap.size wr (w2.setCell ⟨wr.heap.size,2,none⟩ (.slice A2 xs[k].values.length c2)):=aC ap (Nat.le_refl _) _)
       go_must (have bo:=El.put 2 (.slice A2 xs[k].values.length c2))
       go_must (have HOS:=I hOs)
       go_must (have HR:=I bz)
       go_must (have HC:=I bS)
       go_must (have HBS:=I XH)
       go_must (have T6:=XH.size)
       go_must (clear Ix bA de ri bR hO qi El hg cD ap hOs bS XH))
    | (at_builtin
       refine uf (o:=⟨some 25,_,_,_,_,_⟩) apf J' _ _ J' _ _ _ _ _ bz J' [.string xs[k].key,.int .i64 xs[k].op,.slice A2 xs[k].values.length c2] gn J' dv J J (by have:=uZ.out.size;omega) ?_
       intro v4 w4 ew j8 Wy x8))
   have ax:=uZ.out;obtain ⟨td,hne4⟩:=aY.TO (v':=v4) HR.out HC.out HN.out HOS.out (by have:=ax.size;omega) (λg hg=>by have:=(HO.out.lt g hg).2;omega) (λy hy=>by have:=Y6.out y hy;omega) j8 x8;rw [<- List.take_succ_eq_append_getElem am] at td;exact ⟨⟨k+1,_,_,J,N',ew,td,hne4,lS (vP HR.out (Nat.le_refl _)) j8 (ah ax HBS.out) (by have:=ax.size;omega)⟩,by simp [intOf];omega⟩
  ·have bs:k = xs.length:=J;subst bs;rw [List.take_length] at hO;obtain ⟨Ah,ch,hvh⟩:=mY ar;subst hvh;have HO:=I ar;clear ar;go_wp2;go_ret
   exact ⟨_,ds,F',rfl,HO.out,hO,bN,ax⟩
theorem T7 (xs:List aE) (A:Option Addr) (c:Nat) (F:List Nat) (w:World) (h:Sl w xs A c F) (hl:(xs.length:Int)<=1048576) (hv:∀x∈xs,(x.values.length:Int)<=1048576) :
 Calls Tryz.prog 189 #[.slice A xs.length c] w λe w'=>∃A' c' F',e = .returned (.slice A' xs.length c')/\ai w' w.heap.size xs [.slice A' xs.length c'] F'/\Below w.heap.size w w' :=
 (ayq xs A c F w h hl hv).mono λe w' ⟨v,ds,F',he,ar,hO,bN,hb⟩=>by
  obtain ⟨Ah,ch,Gh,rfl,Xp⟩:=ai.oJ ar hO bN;exact ⟨_,_,_,he,Xp,hb⟩
end Go.Proofs.YtjahcnjmjahbaaaGreat
