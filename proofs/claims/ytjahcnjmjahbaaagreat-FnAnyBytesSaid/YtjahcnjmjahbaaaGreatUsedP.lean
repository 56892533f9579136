/- What a host's pods use, in plain Lean. No condition. -/
import Derived.Test.YtjahcnjmjahbaaaGreatSums
import Derived.Test.YtjahcnjmjahbaaaGreatVar
import Derived.Deep.Upon
import Derived.Test.YtjahcnjmjahbaaaGreatLabelsOk
namespace Go.Proofs.YtjahcnjmjahbaaaGreat
open Go.ChangeShapes Go.WideShapes Go.ChangeAt Go.RowKit
set_option linter.unusedVariables false
set_option linter.unusedSimpArgs false
set_option maxHeartbeats 2000000
set_option maxRecDepth 100000
theorem Zo:∀(xs:List Int) (s t:Int),(∀x∈xs,aR x)->aR s->GZ xs s = some t->aR t
 | [],s,t,_,hs,h=>by simp only [GZ,Option.some.injEq] at h;subst h;exact hs
 | x :: xs,s,t,hx,hs,h=>by
   simp only [GZ] at h;cases e:GX s x with
   | none=>rw [e] at h;cases h
   | some m =>rw [e] at h;exact Zo xs m t (λy hy=>hx y (List.mem_cons_of_mem _ hy)) (TV e hs (hx x (List.mem_cons_self ..))) h
theorem aqt {xs:List nI} {a b:Int} (hx:∀p∈xs,aR p.aw/\aR p.mem) (h:vU xs = some (a,b)):aR a/\aR b:=by
 unfold vU at h;cases e1:GZ (xs.map nI.aw) 0 with
 | none=>rw [e1] at h;cases h
 | some m =>
   cases e2:GZ (xs.map nI.mem) 0 with
   | none=>rw [e1,e2] at h;cases h
   | some n =>
     rw [e1,e2] at h;simp only [Option.some.injEq,Prod.mk.injEq] at h;obtain ⟨rfl,rfl⟩:=h;have z:aR 0:=⟨J,J⟩;refine ⟨Zo _ 0 _ (λy hy=>?_) z e1,Zo _ 0 _ (λy hy=>?_) z e2⟩
     ·obtain ⟨p,hp,rfl⟩:=List.mem_map.1 hy;exact (hx p hp).1
     ·obtain ⟨p,hp,rfl⟩:=List.mem_map.1 hy;exact (hx p hp).2
theorem atL {nm:ByteArray} {xs:List ag} {p:nI} (h:p∈F7 nm xs):∃q∈xs,p = q.aS:=by
 unfold F7 at h;obtain ⟨q,hq,rfl⟩:=List.mem_map.1 h;exact ⟨q,(List.mem_filter.1 hq).1,rfl⟩
theorem Sl.ao8 {w:World} {xs:List ag} {A:Option Addr} {c:Nat} {F:List Nat} (h:Sl w xs A c F):∀p∈xs,aR p.aS.aw/\aR p.aS.mem:=by
 intro p hp;obtain ⟨k,hk,rfl⟩:=List.getElem_of_mem hp;obtain ⟨b,o,ck,Fk,_,_,_,hr,_⟩:=h.get hk;obtain ⟨gV,gW,lF,iR,iT,mV,dD,dF,iH,aq,hF,nY,iE,rF,rG,oZ,je,dN,eI,hseq⟩:=kE hr;exact ⟨rF,rG⟩
theorem UD {w:World} {xs:List ag} {A:Option Addr} {c:Nat} {F:List Nat} {nm:ByteArray} {a b:Int} (h:Sl w xs A c F) (hs:vU (F7 nm xs) = some (a,b)):aR a/\aR b :=
 aqt (λp hp=>by obtain ⟨q,hq,rfl⟩:=atL hp;exact h.ao8 q hq) hs
theorem AX {nm:ByteArray} {xs:List ag} {a b:Int} (h:vU (F7 nm xs) = some (a,b)):KF nm xs = .tuple #[.int .i64 a,.int .i64 b,.int .i64 (F7 nm xs).length,.bool true]:=by unfold KF;rw [h]
theorem AV {nm:ByteArray} {xs:List ag} (h:vU (F7 nm xs) = none):KF nm xs = .tuple #[.int .i64 0,.int .i64 0,.int .i64 0,.bool false]:=by unfold KF;rw [h]
theorem Sl.label {w:World} {xs:List ao} {A:Option Addr} {c:Nat} {F:List Nat} (h:Sl w xs A c F) {k:Nat} (hk:k < xs.length) :
 ∃b o,A = some ⟨b,o,none⟩/\b∈F/\b < w.heap.size/\w.cell? ⟨b,o+k * 2,none⟩ = some (.string xs[k].key)/\w.cell? ⟨b,o+k * 2+1,none⟩ = some (.string xs[k].value)/\xs[k].key.size<=maxLen/\xs[k].value.size<=maxLen:=by
 obtain ⟨b,o,ck,Fk,rfl,hb,am,hr,_,hc⟩:=h.get hk;obtain ⟨rfl,rfl,h1,h2⟩:=vO hr;exact ⟨b,o,rfl,hb,am,hc 0 _ rfl,hc 1 _ rfl,h1,h2⟩
def Fe (xs:List ao):ByteArray:=xs.foldl (λs l=>s++(aL l.key++aL l.value)) (jD xs.length)
theorem FI {α β:Type} (f:β->α->β) (b:β) (xs:List α) (k:Nat) (h:k < xs.length):(xs.take (k+1)).foldl f b = f ((xs.take k).foldl f b) xs[k]:=by
 rw [List.take_succ_eq_append_getElem h,List.foldl_append];rfl
theorem Og (xs:List ao) (b:ByteArray) (hx:∀l∈xs,(l.key.size:Int)<=1048576/\(l.value.size:Int)<=1048576):∀k,k<=xs.length->((xs.take k).foldl (λs l=>s++(aL l.key++aL l.value)) b).size<=b.size+k * 2097172
 | 0,_=>by simp
 | k+1,h=>by
   rw [FI _ _ _ _ J,ByteArray.size_append,ByteArray.size_append];have h1:=Og xs b hx k J;obtain ⟨h2,h3⟩:=hx xs[k] (List.getElem_mem ..);have h4:=iJ xs[k].key J;have h5:=iJ xs[k].value J;omega
theorem Md (xs:List ao) (A:Option Addr) (c:Nat) (F:List Nat) (w:World) (h:Sl w xs A c F) (hl:(xs.length:Int)<=1048576) (hx:∀l∈xs,(l.key.size:Int)<=1048576/\(l.value.size:Int)<=1048576) :
 Calls Tryz.prog 38 #[.slice A xs.length c] w λe w'=>e = .returned (.string (Fe xs))/\Below w.heap.size w w':=by
 have hI:aR xs.length:=⟨J,J⟩;have jx:=bM _ hI;have HX:=I hx;clear hx;go_enter Tryz.func38,Tryz.ntmps38;go_wp2_with (go_at_call 29;refine (wE _ _ hI).mono ?_;rintro e w1 ⟨rfl,bi⟩)
 go_loopw [3,11] (λs i wr=>∃k:Nat,k<=xs.length/\i = .int .i64 k/\s = .string ((xs.take k).foldl (λs l=>s++(aL l.key++aL l.value)) (jD xs.length))/\Below w.heap.size w wr) (λ_ i _=>xs.length - (intOf i).toNat)
 case atStart=>exact ⟨0,Nat.zero_le _,rfl,rfl,bi⟩
 case round =>
  obtain ⟨k,hk,rfl,rfl,ax⟩:=hrel;by_cases am:k < xs.length
  ·obtain ⟨b,o,rfl,o9,hbs,yo,hc1',Uk,oy⟩:=(h.ext ax).label am;have eJ:=Og xs (jD xs.length) HX.out k hk;obtain ⟨UJ,Im⟩:=HX.out xs[k] (List.getElem_mem ..);have lz:=iJ xs[k].key J;have me:=iJ xs[k].value J;have Q1:=FI (λs (l:ao)=>s++(aL l.key++aL l.value)) (jD xs.length) xs k am;have HFT:=I Q1;clear Q1;generalize hS:(xs.take k).foldl (λs l=>s++(aL l.key++aL l.value)) (jD xs.length) = S at *;have HS:=I hS;clear hS;go_wp2_with fail
   refine aF _ U' U' xD ?_
   repeat (first
    | (apply aG
       case hw=>rfl
       simp only [Act.put,pz])
    | (apply aH
       case hw=>rfl
       case h =>
        intro wq hq;obtain ⟨cN,lJ⟩:=aB hq;go_simp
        first
         | exact ⟨hq,rfl⟩
         | exact ⟨aQ hq _,rfl⟩
         | (refine (zV _ _ J).mono ?_;rintro e w2 ⟨rfl,ap⟩;exact ⟨rfl,aI hq ap⟩)
         | (simp only [↓IntWalk.iteOmega];exact ⟨hq,rfl⟩)
       simp only [Act.put,pz]))
   refine aN ?_;intro wn hn;replace hn:=hn.out;have bw:Below wr.heap.size wr wn:=ah (ak (aj _) _) hn;clear hn;go_wp2;go_roundw
   case rel=>exact ⟨k+1,J,N',by rw [HFT.out],ah ax bw⟩
   case measure=>simp [intOf];omega
  ·exact Dg
theorem Mc (xs:List ao) (A:Option Addr) (c:Nat) (F:List Nat) (w:World) (h:Sl w xs A c F) (hl:(xs.length:Int)<=1048576) (hx:∀l∈xs,(l.key.size:Int)<=1048576/\(l.value.size:Int)<=1048576) :
 Calls Tryz.prog 132 #[.slice A xs.length c] w λe w'=>e = .returned (.string (Fe xs))/\Below w.heap.size w w':=by
 have hI:aR xs.length:=⟨J,J⟩;have jx:=bM _ hI;have HX:=I hx;clear hx;go_enter Tryz.func132,Tryz.ntmps132;go_wp2_with (go_at_call 81;refine (uP _ _ hI).mono ?_;rintro e w1 ⟨rfl,bi⟩)
 go_loopw [3,4] (λs i wr=>∃k:Nat,k<=xs.length/\i = .int .i64 k/\s = .string ((xs.take k).foldl (λs l=>s++(aL l.key++aL l.value)) (jD xs.length))/\Below w.heap.size w wr) (λ_ i _=>xs.length - (intOf i).toNat)
 case atStart=>exact ⟨0,Nat.zero_le _,rfl,rfl,bi⟩
 case round =>
  obtain ⟨k,hk,rfl,rfl,ax⟩:=hrel;by_cases am:k < xs.length
  ·obtain ⟨b,o,rfl,o9,hbs,yo,hc1',Uk,oy⟩:=(h.ext ax).label am;have eJ:=Og xs (jD xs.length) HX.out k hk;obtain ⟨UJ,Im⟩:=HX.out xs[k] (List.getElem_mem ..);have lz:=iJ xs[k].key J;have me:=iJ xs[k].value J;have Q1:=FI (λs (l:ao)=>s++(aL l.key++aL l.value)) (jD xs.length) xs k am;have HFT:=I Q1;clear Q1;generalize hS:(xs.take k).foldl (λs l=>s++(aL l.key++aL l.value)) (jD xs.length) = S at *;clear hS;go_wp2_with fail
   refine aF _ U' U' xD ?_
   repeat (first
    | (apply aG
       case hw=>rfl
       simp only [Act.put,pz])
    | (apply aH
       case hw=>rfl
       case h =>
        intro wq hq;obtain ⟨cN,lJ⟩:=aB hq;go_simp
        first
         | exact ⟨hq,rfl⟩
         | exact ⟨aQ hq _,rfl⟩
         | (refine (zW _ _ J).mono ?_;rintro e w2 ⟨rfl,ap⟩;exact ⟨rfl,aI hq ap⟩)
         | (simp only [↓IntWalk.iteOmega];exact ⟨hq,rfl⟩)
       simp only [Act.put,pz]))
   refine aN ?_;intro wn hn;replace hn:=hn.out;go_wp2;go_roundw
   case rel=>exact ⟨k+1,J,N',by rw [HFT.out,ByteArray.append_assoc],ah ax hn⟩
   case measure=>simp [intOf];omega
  ·exact Dg
theorem mY {w:World} {B e size n:Nat} {v:Value} {xs:List Value} (h:w.ownsRow B e size v n xs):∃A c,v = .slice A n c:=by
 exact Nw
theorem EJ {w:World} {B e size n c i:Nat} {v u:Value} {xs:List Value} (h:w.ownsRow B e size v n xs) (hc:∀g,v.ownBlock = some g->g≠c):(w.setCell ⟨c,i,none⟩ u).ownsRow B e size v n xs :=
 h.kept (row:=some c) ⟨rfl,rfl,rfl,by simp [World.setCell],λk hk bN=>Below.heap_setCell _ _ _ _ (by intro e;apply bN;rw [e])⟩ (by
   by_cases hv:v.ownBlock = some c
   ·exact absurd rfl (hc c hv)
   ·exact .inr hv)
section
variable {α:Type} [bd α]
theorem aY.TO {w w':World} {B B5 e size n:Nat} {v v':Value} {xs:List α} {ds us cs:List Value} {F G:List Nat} {x:α} (row:w.ownsRow B e size v n us) (bS:aY w B xs ds F) (bN:∀g,v.ownBlock = some g->g∉F)
 (hx:ai w B5 x cs G) (h5:B<=B5) (fW:∀g,v.ownBlock = some g->g < B5) (hF:∀y∈F,y < B5) (hg:w.grownBy w' v.ownBlock) (cD:v'.ownBlock = v.ownBlock∨v'.ownBlock = some (w.heap.size+1)) :
 aY w' B (xs++[x]) (ds++cs) (F++G)/\∀g,v'.ownBlock = some g->g∉F++G:=by
 have h1:=bS.push hx h5 hF;have ow:∀g,v.ownBlock = some g->g∉F++G:=λg hv hm=>by
  rcases List.mem_append.1 hm with hm | hm
  ·exact bN g hv hm
  ·have:=hx.base g hm;have:=fW g hv;omega
 refine ⟨h1.keep (λy hy=>hg.block y (h1.lt y hy) (λhv=>ow y hv.symm hy)) hg.size,λg hv hm=>?_⟩;rcases cD with cD | cD
 ·exact ow g (cD.symm.trans hv) hm
 ·have h2:=h1.lt g hm;rw [cD] at hv;injection hv with hv;omega
end
theorem Qb {P:Program} {t e:TypeId} {z:Value} {size bytes:Nat} (hE:DL P t e z size bytes) {o:Oper} {a:Act} {K:Act->World->Prop} {Q:Exit->Act->World->Prop} (s x:Operand)
 (ho:o.op = .call { callee:=.builtin .append,args:=#[s,x],argTypes:=#[t,t] })
 (w:World) (base:Nat) (v:Value) (n:Nat) (xs:List Value) (ar:w.ownsRow base e size v n xs) (hs:a.eval s = v)
 (cs:List Value) (hx:a.eval x = .slice (some ⟨w.heap.size,0,none⟩) 1 1) (hl:cs.length = size) (h1:∀u∈cs,u.oneCell' = true)
 (hn:n<=2097152) (mS:bytes<=4096) (dl:base<=w.heap.size)
 (h:∀v' w',w'.ownsRow base e size v' (n+1) (xs++cs)->w.grownBy w' v.ownBlock->w.heap.size+1<=w'.heap.size->(v'.ownBlock = v.ownBlock∨v'.ownBlock = some (w.heap.size+1))->K (a.put o.dst v') w'):o.wp P a (w.alloc (.cells cs.toArray e)) K Q:=by
 obtain ⟨ht,hi0,kX,eJ⟩:=hE;obtain ⟨i,hi,hz,hsize,hb⟩:=info_parts hi0;have ot:(n+1) * bytes<=2097153 * 4096:=Nat.mul_le_mul J mS;have gr:∀j u,cs[j]? = some u->(w.alloc (.cells cs.toArray e)).cell? ((⟨w.heap.size,0,none⟩:Addr).add j) = some u:=by exact sr
 obtain ⟨v',w',hr,h2,h3,h4,h5⟩:=run_append_own_at (P:=P) (w.alloc (.cells cs.toArray e)) base t o.type e i z size bytes ht hi hz hsize hb kX eJ v n xs (ar.alloc _) ⟨w.heap.size,0,none⟩ 1 1 cs J gr h1 jp J (by simp;omega);unfold Oper.wp execOp;simp only [ho,resolve,invoke,builtin,Sem.run_bind,Sem.run_pure,Result.andThen_ok,List.map_toArray,List.map_cons,List.map_nil,hs,hx,hr];refine h v' w' h2 ⟨h3.os,h3.tape,h3.output,Nat.le_trans S' h3.size,λk hk bN=>?_⟩ (by have:=h3.size;simpa using this) (by simpa using h5);rw [h3.block k (by simp;omega) bN];exact Below.heap_alloc _ _ _ hk
theorem rW {α:Type} [bd α] {P:Program} {t e:TypeId} {z:Value} {size bytes:Nat} (hE:DL P t e z size bytes) (hd:bd.size α = size) {ops:Array Oper} {rest:List Oper} {o:Oper} {a:Act} {Q:Exit->Act->World->Prop} (vf:o.guard = none) (s x:Operand)
 (ho:o.op = .call { callee:=.builtin .append,args:=#[s,x],argTypes:=#[t,t] })
 (w:World) (base:Nat) (v:Value) (n:Nat) (xs:List Value) (ar:w.ownsRow base e size v n xs) (hs:a.eval s = v)
 (ys:List α) (A:Option Addr) (c:Nat) (F:List Nat) (ox:Sl w ys A c F) (hx:a.eval x = .slice A ys.length c)
 (hn:n+ys.length<=2097152) (mS:bytes<=4096) (dl:base<=w.heap.size)
 (h:∀v' w' ds G,jo w ys ds G->(∀b∈G,b∈F)->w'.ownsRow base e size v' (n+ys.length) (xs++ds)->w.grownBy w' v.ownBlock->(v'.ownBlock = v.ownBlock∨v'.ownBlock = some w.heap.size)->wpList P ops Q rest (a.put o.dst v') w'):wpList P ops Q (o :: rest) a w:=by
 subst hd;obtain ⟨ht,hi0,kX,eJ⟩:=hE;obtain ⟨i,hi,hz,hsize,hb⟩:=info_parts hi0;have ot:(n+ys.length) * bytes<=2097152 * 4096:=Nat.mul_le_mul hn mS;obtain ⟨A',c',G,ds,e0,h1,h2,hc,h0⟩:=ox;simp only [List.cons.injEq,Value.slice.injEq,and_true,true_and] at e0;obtain ⟨rfl,rfl⟩:=e0;have some_:∀(ad:Addr),A = some ad->(∀j u,ds[j]? = some u->w.cell? (ad.add j) = some u)->wpList P ops Q (o :: rest) a w:=by
  intro ad hA cf;subst hA;have hG:∀b∈G,b∈F:=by
   rcases h0 with ⟨rfl,rfl⟩ | ⟨b,o',_,rfl,_⟩
   ·rw [hc.2];intro b hb;cases hb
   ·intro x hx;exact List.mem_cons_of_mem _ hx
  exact wpList_append_own_at w vf s x t ho base e i z (bd.size α) bytes ht hi hz hsize hb kX eJ v n xs hs ar ad ys.length c ds hx hc.len cf hc.one jp J dl (λv' w' mL hg _ cD=>h v' w' ds G hc hG mL hg cD)
 rcases h0 with ⟨rfl,rfl⟩ | ⟨b,o',hA,rfl,hb,cf⟩
 ·obtain ⟨rfl,rfl⟩:=hc;cases A with
  | some ad=>exact some_ ad rfl (λj u hu=>by simp at hu)
  | none =>
    have fin:∀(A2:Option Addr) (cap:Nat),v = .slice A2 n cap->n<=cap->wpList P ops Q (o :: rest) a w:=by intro A2 cap hv eC;refine wpList_plain vf λK hK=>?_;have hr:=run_append_nothing (P:=P) w t t o.type e i ht hi A2 n cap eC (.slice none 0 c) (Src.ofNil w ht c);unfold Oper.wp execOp;simp only [ho,resolve,invoke,builtin,Sem.run_bind,Sem.run_pure,Result.andThen_ok,List.map_toArray,List.map_cons,List.map_nil,hs,hv,hx,List.length_nil,hr];refine hK _ _ ?_;subst hv;exact h _ w [] [] ⟨rfl,rfl⟩ (λb hb=>hb) (by simpa using ar) ⟨rfl,rfl,rfl,Nat.le_refl _,λ_ _ _=>rfl⟩ (.inl rfl)
    rcases ar.2 with ⟨hv,ie⟩ | ⟨g,cap,bp,hv,_,_,eC,_⟩
    ·exact fin none 0 (by rw [hv,ie]) J
    ·exact fin _ cap hv eC
 ·refine some_ _ hA λj u hu=>?_;rw [show (⟨b,o',none⟩:Addr).add j = ⟨b,o'+j,none⟩ from by unfold Addr.add;split <;> simp_all];exact cf j u hu
section
variable {α:Type} [bd α] {w:World}
theorem O0 (hf:∀{w:World} {x:α} {cs:List Value} {F:List Nat},rd w x cs F->F = []):∀{xs:List α} {ds:List Value} {F:List Nat},jo w xs ds F->F = []
 | [],_,_,h=>h.2
 | x :: xs,_,_,⟨c1,c2,F1,F2,_,rfl,h1,h2⟩=>by rw [hf h1,O0 hf h2];rfl
theorem ai.of_flat {B:Nat} {e:TypeId} {v:Value} {xs:List α} {ds:List Value} {F:List Nat} (hf:∀{w:World} {x:α} {cs:List Value} {F:List Nat},Go.Proofs.YtjahcnjmjahbaaaGreat.bd.rd w x cs F->F = []) (h0:w.ownsRow B e (bd.size α) v xs.length ds) (h:jo w xs ds F) :
 ∃A c G,v = .slice A xs.length c/\ai w B xs [.slice A xs.length c] G:=by
 obtain rfl:=O0 hf h;exact ai.oJ h0 ⟨h,List.nodup_nil,(λb hb=>by cases hb),(λb hb=>by cases hb)⟩ (λg _ hm=>by cases hm)
end
theorem eD.oJ {w:World} {B e size n:Nat} {v:Value} {ds:List Value} (h:w.ownsRow B e size v n ds):(v = .slice none 0 0/\n = 0)∨∃g cap N,v = .slice (some ⟨g,0,none⟩) n cap/\B<=g/\eD w g e N ds/\n<=cap/\cap<=maxLen:=by
 rcases h with ⟨hl,h | ⟨g,cap,bp,rfl,hb,hh,eC,hm,bS,ht⟩⟩
 ·exact .inl h
 ·refine .inr ⟨g,cap,bp.size,rfl,hb,⟨bp,hh,rfl,?_,λj u hu=>?_⟩,eC,hm⟩
  ·rw [hl,bS];exact Nat.mul_le_mul_right _ eC
  ·exact CL
theorem eD.set {w:World} {g:Nat} {t:TypeId} {N:Nat} {ds:List Value} (h:eD w g t N ds) {i:Nat} (hi:i < ds.length) (u:Value):eD (w.setCell ⟨g,i,none⟩ u) g t N (ds.set i u):=by
 obtain ⟨cs,h,rfl,hl,hc⟩:=h;refine ⟨cs.setIfInBounds i u,?_,S',by simpa using hl,λj v hv=>?_⟩
 ·simp [World.setCell,Array.getElem?_modify,h]
 ·by_cases hj:i = j
  ·subst hj;rw [List.getElem?_set_self hi] at hv;cases hv
   rw [Array.getElem?_setIfInBounds_self_of_lt J]
  ·rw [List.getElem?_set_ne hj] at hv;rw [Array.getElem?_setIfInBounds_ne hj];exact hc j v hv
theorem eD.at_ {w:World} {g:Nat} {t:TypeId} {N:Nat} {ds:List Value} (h:eD w g t N ds) {j:Nat} {u:Value} (hj:ds[j]? = some u):w.cell? ⟨g,j,none⟩ = some u:=by have:=h.cells j u hj;simpa using this
theorem ai7 (s:ByteArray) (a:Nat):∀(j k n:Nat) (q:Nat × Nat),j = 9 - k->n < 2 ^ (7 * k)->Xc s a k n = some q->q.1 < 2 ^ 63/\q.2<=s.size
 | j,k,n,q,hj,hn,h=>by
   by_cases hk:k < 9/\a+k < s.size
   ·have e:s[a+k].toNat % 128 < 128:=Nat.mod_lt _ (by decide);have hp:(2:Nat) ^ (7 * (k+1)) = 2 ^ (7 * k) * 128:=(by rw [Nat.mul_add,Nat.pow_add]);have hm:s[a+k].toNat % 128 * 2 ^ (7 * k)<=127 * 2 ^ (7 * k):=Nat.mul_le_mul_right _ J;have cS:n+s[a+k].toNat % 128 * 2 ^ (7 * k) < 2 ^ (7 * (k+1)):=J;by_cases hc:s[a+k].toNat < 128
    ·by_cases hz:s[a+k].toNat = 0/\0 < k
     ·rw [wX hk.1 hk.2 hz.1 hz.2] at h;cases h
     ·rw [x9 hk.1 hk.2 hc hz] at h;cases h
      have h63:(2:Nat) ^ (7 * (k+1))<=2 ^ 63:=Nat.pow_le_pow_right (by decide) J;exact ⟨by show _ < _;omega,by show _<=_;omega⟩
    ·rw [uT hk.1 hk.2 J] at h;match j,hj with
     | 0,hj=>omega
     | j+1,hj=>exact ai7 s a j (k+1) _ q J cS h
   ·rw [UH hk] at h;cases h
theorem aiq {s:ByteArray} {a:Int} {q:Nat × Nat} (h:Af s a = some q):q.1 < 2 ^ 63/\q.2<=s.size:=by
 unfold Af at h;split at h
 ·cases h
 ·exact ai7 s _ 9 0 0 q rfl (by decide) h
def fG (s:ByteArray) (a:Int):Int × Int:=match Af s a with | some (n,p)=>((n:Int),(p:Int)) | none=>(0,-1)
theorem UY (s:ByteArray) (a:Int):LB (Af s a) = .tuple #[.int .i64 (fG s a).1,.int .i64 (fG s a).2]:=by
 unfold fG;cases h:Af s a <;> rfl
theorem IG (s:ByteArray) (a:Int):(fG s a = (0,-1))∨∃n p:Nat,fG s a = ((n:Int),(p:Int))/\n < 2 ^ 63/\p<=s.size:=by
 unfold fG;cases h:Af s a with
 | none=>exact .inl rfl
 | some q=>obtain ⟨n,p⟩:=q;exact .inr ⟨n,p,rfl,aiq h⟩
theorem QA {s:ByteArray} {a:Int} (h:a < 0):fG s a = (0,-1):=by unfold fG Af;rw [if_pos h]
def rU (s:ByteArray) (a:Int):ByteArray × Int :=
 if (fG s a).2 < 0∨(s.size:Int) - (fG s a).2 < (fG s a).1 then (⟨#[]⟩,-1)
 else (s.extract (fG s a).2.toNat ((fG s a).2.toNat+(fG s a).1.toNat),(fG s a).2+(fG s a).1)
theorem aoE {s:ByteArray} {a:Int} (h:a < 0):rU s a = (⟨#[]⟩,-1):=by
 unfold rU;rw [QA h,if_pos (.inl (by decide))]
theorem Oq (s:ByteArray) (a:Int) (hs:(s.size:Int)<=1048576):((rU s a).1.size:Int)<=1048576/\ -1<=(rU s a).2/\(rU s a).2<=s.size:=by
 unfold rU;rcases IG s a with h | ⟨n,p,h,hn,hp⟩
 ·rw [h,if_pos (.inl (by decide))];exact Nx
 ·rw [h];simp only [];split
  ·exact Nx
  ·rename_i hc;refine ⟨?_,by show (-1:Int)<=(p:Int)+(n:Int);omega,by show (p:Int)+(n:Int)<=_;omega⟩;show ((s.extract _ _).size:Int)<=_;rw [ByteArray.size_extract];omega
theorem aha (s:ByteArray) (a:Int) (hs:(s.size:Int)<=1048576):aR (fG s a).1/\(-1<=(fG s a).2/\(fG s a).2<=1048576)/\0<=(fG s a).1:=by
 rcases IG s a with h | ⟨n,p,h,hn,hp⟩
 ·rw [h];exact ⟨⟨by show _<=(0:Int);omega,by show (0:Int)<=_;omega⟩,⟨by show (-1:Int)<=-1;omega,by show (-1:Int)<=_;omega⟩,by show (0:Int)<=0;omega⟩
 ·rw [h];exact ⟨⟨by show _<=(n:Int);omega,by show (n:Int)<=_;omega⟩,⟨by show (-1:Int)<=(p:Int);omega,by show (p:Int)<=_;omega⟩,by show (0:Int)<=(n:Int);omega⟩
def jC (s:ByteArray) (most:Int) (a:Int):Int × Int :=
 if (fG s a).1<=most then (if (fG s a).2 < 0 then (0,(fG s a).2) else fG s a) else (0,-1)
def dP (s:ByteArray) (a:Int):ByteArray × Int:=if a < 0 then (⟨#[]⟩,a) else rU s a
def iZ (s:ByteArray) (st:Int × Bool):Int × (Int × Bool) :=
 if (fG s st.1).2 < 0∨st.2 = true then (0,(st.1,true)) else ((fG s st.1).1,((fG s st.1).2,false))
def aD (s:ByteArray) (st:Int × Bool):ByteArray × (Int × Bool) :=
 if (rU s st.1).2 < 0∨st.2 = true then (⟨#[]⟩,(st.1,true)) else ((rU s st.1).1,((rU s st.1).2,false))
def lM (s:ByteArray) (most:Int) (st:Int × Bool):Int × (Int × Bool) :=
 if most < (iZ s st).1 then (0,((iZ s st).2.1,true)) else iZ s st
def Ja (a:Int) (st:Int × Bool):Prop:=(0<=a->st = (a,false))/\(a < 0->st.2 = true∨st.1 < 0)
def Same (a:Int) (st:Int × Bool):Prop:=(0<=a->st = (a,false))/\(a < 0->st.2 = true)
theorem Same.cM {a:Int} {st:Int × Bool} (h:Same a st):Ja a st:=⟨h.1,λhn=>.inl (h.2 hn)⟩
theorem V5 (a:Int):Ja a (a,false):=⟨λ_=>rfl,λh=>.inr h⟩
theorem CX {s:ByteArray} {a:Int} {st:Int × Bool} (h:Ja a st):Same (fG s a).2 (iZ s st).2/\(fG s a).1 = (iZ s st).1:=by
 by_cases ha:a < 0
 ·have e:iZ s st = (0,(st.1,true)):=by
   unfold iZ;rcases h.2 ha with hb | hb
   ·rw [if_pos (.inr hb)]
   ·rw [QA hb,if_pos (.inl (by decide))]
  rw [QA ha,e];exact ⟨⟨λh=>absurd h (by decide),λ_=>rfl⟩,rfl⟩
 ·have e:=h.1 J;subst e;unfold iZ;simp only [Bool.false_eq_true,or_false];rcases IG s a with e | ⟨n,p,e,hn,hp⟩
  ·rw [e];simp only [if_pos (show (-1:Int) < 0 by decide)];exact ⟨⟨λh=>absurd h (by decide),λ_=>rfl⟩,trivial⟩
  ·rw [e];simp only [if_neg (show ¬(p:Int) < 0 by omega)];exact ⟨⟨λ_=>rfl,λh=>absurd h J⟩,trivial⟩
theorem CB {s:ByteArray} {a:Int} {st:Int × Bool} (h:Ja a st):Same (dP s a).2 (aD s st).2/\(dP s a).1 = (aD s st).1:=by
 by_cases ha:a < 0
 ·have e:aD s st = (⟨#[]⟩,(st.1,true)):=by
   unfold aD;rcases h.2 ha with hb | hb
   ·rw [if_pos (.inr hb)]
   ·rw [aoE hb,if_pos (.inl (by decide))]
  unfold dP;rw [if_pos ha,e];exact ⟨⟨λh=>absurd ha J,λ_=>rfl⟩,rfl⟩
 ·have e:=h.1 J;subst e;unfold aD dP;rw [if_neg ha];simp only [Bool.false_eq_true,or_false];by_cases hs:(rU s a).2 < 0
  ·rw [if_pos hs];have e1:(rU s a).1 = ⟨#[]⟩:=by
    unfold rU at hs |-;rcases IG s a with e | ⟨n,p,e,hn,hp⟩
    ·rw [e,if_pos (.inl (by decide))]
    ·rw [e] at hs |-;simp only [] at hs |-;split
     ·rfl
     ·rename_i hc;rw [if_neg hc] at hs;exact absurd hs (by show ¬((p:Int)+(n:Int) < 0);omega)
   exact ⟨⟨λh=>absurd hs J,λ_=>rfl⟩,e1⟩
  ·rw [if_neg hs];exact ⟨⟨λ_=>rfl,λh=>absurd h hs⟩,rfl⟩
theorem P6 {s:ByteArray} {most a:Int} {st:Int × Bool} (hm:0<=most) (h:Ja a st):Same (jC s most a).2 (lM s most st).2/\(jC s most a).1 = (lM s most st).1:=by
 obtain ⟨h1,h2⟩:=CX (s:=s) h;unfold jC lM;rw [<- h2];by_cases eC:(fG s a).1<=most
 ·rw [if_pos eC,if_neg (show ¬most < (fG s a).1 by omega)];split
  ·rename_i hn;refine ⟨h1,?_⟩;rw [<- h2];rcases IG s a with e | ⟨n,p,e,_,_⟩
   ·rw [e]
   ·rw [e] at hn;exact absurd hn (by show ¬((p:Int) < 0);omega)
  ·exact ⟨h1,h2⟩
 ·rw [if_neg eC,if_pos (show most < (fG s a).1 by omega)];exact ⟨⟨λh=>absurd h (by decide),λ_=>rfl⟩,rfl⟩
theorem vI (s:ByteArray) (most a:Int) (hm:0<=most):(0<=(jC s most a).1/\(jC s most a).1<=most):=by
 unfold jC;have h0:0<=(fG s a).1:=by
  rcases IG s a with e | ⟨n,p,e,_,_⟩
  ·rw [e];exact Int.le_refl 0
  ·rw [e];exact Int.natCast_nonneg n
 split
 ·split
  ·exact ⟨Int.le_refl 0,hm⟩
  ·exact ⟨h0,Y'⟩
 ·exact ⟨Int.le_refl 0,hm⟩
theorem xX (s:ByteArray) (most:Int) (st:Int × Bool) (hm:0<=most):0<=(lM s most st).1/\(lM s most st).1<=most:=by
 have h0:0<=(iZ s st).1:=by
  unfold iZ;split
  ·exact Int.le_refl 0
  ·rcases IG s st.1 with e | ⟨n,p,e,_,_⟩
   ·rw [e];exact Int.le_refl 0
   ·rw [e];exact Int.natCast_nonneg n
 unfold lM;split
 ·exact ⟨Int.le_refl 0,hm⟩
 ·exact ⟨h0,J⟩
theorem EU {s:ByteArray} {a:Int} (h:a < 0):(dP s a).2 < 0:=by unfold dP;rw [if_pos h];exact h
def qX {α:Type} (r:Int->α × Int):Nat->List α->Int->List α × Int
 | 0,xs,a=>(xs,a)
 | k+1,xs,a=>qX r k (xs++[(r a).1]) (r a).2
def bt {α:Type} (r:Int × Bool->α × (Int × Bool)):Nat->List α->Int × Bool->List α × (Int × Bool)
 | 0,xs,st=>(xs,st)
 | k+1,xs,st=>if st.2 = true then (xs,st) else bt r k (xs++[(r st).1]) (r st).2
theorem MQ {α:Type} (r:Int->α × Int):∀(k:Nat) (xs:List α) (a:Int),(qX r k xs a).1.length = xs.length+k
 | 0,_,_=>rfl
 | k+1,xs,a=>by rw [qX,MQ r k];simp;omega
theorem MP {α:Type} {r:Int->α × Int} (hr:∀a,a < 0->(r a).2 < 0):∀(k:Nat) (xs:List α) (a:Int),a < 0->(qX r k xs a).2 < 0
 | 0,_,_,h=>h
 | k+1,xs,a,h=>MP hr k _ _ (hr a h)
theorem Y1 {α:Type} {r:Int->α × Int} {q:Int × Bool->α × (Int × Bool)} (hr:∀a,a < 0->(r a).2 < 0) (h:∀a st,Same a st->Same (r a).2 (q st).2/\(0<=(r a).2->(r a).1 = (q st).1)) :
 ∀(k:Nat) (xs ys:List α) (a:Int) (st:Int × Bool),Same a st->(0<=a->xs = ys)->Same (qX r k xs a).2 (bt q k ys st).2/\(0<=(qX r k xs a).2->(qX r k xs a).1 = (bt q k ys st).1)
 | 0,xs,ys,a,st,hs,he=>⟨hs,he⟩
 | k+1,xs,ys,a,st,hs,he=>by
   rw [qX,bt];by_cases ha:a < 0
   ·rw [if_pos (hs.2 ha)];have hn:=MP hr k (xs++[(r a).1]) _ (hr a ha);exact ⟨⟨λh0=>absurd hn J,λ_=>hs.2 ha⟩,λh0=>absurd hn J⟩
   ·have e:=hs.1 J;rw [if_neg (show ¬st.2 = true by rw [e];simp)];obtain ⟨h1,h2⟩:=h a st hs;refine Y1 hr h k _ _ _ _ h1 (λh0=>?_);rw [he J,h2 h0]
def sa (s:ByteArray) (a:Int):ao × Int:=(⟨(dP s a).1,(dP s (dP s a).2).1⟩,(dP s (dP s a).2).2)
def l0 (s:ByteArray) (st:Int × Bool):ao × (Int × Bool):=(⟨(aD s st).1,(aD s (aD s st).2).1⟩,(aD s (aD s st).2).2)
theorem Th {s:ByteArray} {a:Int} (h:a < 0):(sa s a).2 < 0:=EU (EU h)
theorem ash {s:ByteArray} {a:Int} {st:Int × Bool} (h:Same a st):Same (sa s a).2 (l0 s st).2/\(0<=(sa s a).2->(sa s a).1 = (l0 s st).1):=by
 obtain ⟨h1,h2⟩:=CB (s:=s) h.cM;obtain ⟨h3,h4⟩:=CB (s:=s) h1.cM;exact ⟨h3,λ_=>by unfold sa l0;rw [h2,h4]⟩
def iP (s:ByteArray) (a:Int):List ao × Int:=qX (sa s) (jC s 6 a).1.toNat [] (jC s 6 a).2
def jS (s:ByteArray) (st:Int × Bool):List ao × (Int × Bool):=bt (l0 s) (lM s 6 st).1.toNat [] (lM s 6 st).2
def iF (s:ByteArray) (a:Int):List ao × Int:=((iP s a).1,if sD (iP s a).1 = true then (iP s a).2 else -1)
theorem Oo {s:ByteArray} {a:Int} {st:Int × Bool} (h:Ja a st):Same (iP s a).2 (jS s st).2/\(0<=(iP s a).2->(iP s a).1 = (jS s st).1):=by
 obtain ⟨h1,h2⟩:=P6 (s:=s) (most:=6) (by decide) h;unfold iP jS;rw [<- h2];exact Y1 (λa ha=>Th ha) (λa st hs=>ash hs) _ _ _ _ _ h1 (λ_=>rfl)
def qB (s:ByteArray) (a:Int):List ao × Int:=if (iF s a).2 < 0 then ([],-1) else iF s a
theorem ahN (x:bH) (y:iU) (cs ds:List Value) (F G:List Nat) (w:World) (h:rd w x cs F) (h':rd w y ds G) (kO:(x.key.size:Int)<=1048576) (oo:(x.value.size:Int)<=1048576) (aiD:(y.key.size:Int)<=1048576) (Zp:(y.value.size:Int)<=1048576) :
 Calls Tryz.prog 203 #[.agg cs.toArray,.agg ds.toArray] w λe w'=>e = .returned (.bool (AY x y))/\Below w.heap.size w w':=by
 obtain ⟨aq,hF1,xO,xk,zT⟩:=jv h;obtain ⟨jU,kt,vC,rP,uY⟩:=oK h';subst aq jU;subst hF1 kt;go_enter Tryz.func203,Tryz.ntmps203
 go_wp2_with (first
  | (go_at_call 139;refine (Nb x _ [] _ (aJ h bc) kO oo).mono ?_;rintro e w2 ⟨rfl,ap⟩;obtain ⟨bX,cE⟩:=ay ap;have cr:w.heap.size+1 < w2.heap.size:=(sq ap.size);have nu:w.heap.size < w2.heap.size:=J)
  | (go_at_call 141;refine (Wh y _ [] _ (aJ h' bc) aiD Zp).mono ?_;rintro e w3 ⟨rfl,ba⟩;obtain ⟨cK,hf3⟩:=ay ba;have eN:w.heap.size+1 < w3.heap.size:=(sq ba.size);have zv:w.heap.size < w3.heap.size:=J))
 all_goals first
  | (go_ret;refine ⟨?_,bc⟩;refine congrArg (λb=>Ending.returned (Value.bool b)) ?_;show (_:Bool) = _;(try clear bX cE ap);(try clear cK hf3 ba);unfold AY;(try simp only [Kz]);first | (simp [*];done) | (simp_all;done) | (simp_all;omega) | (simp_all;exact Bool.or_comm _ _))
  | skip
def Ws (ts:List bH) (gz:Int) (x:iU):Bool:=(x.effect == gz)&&!(ts.any λt=>AY t x)
def BD (ts:List bH) (gz:Int) (xs:List iU):Nat:=(xs.filter (Ws ts gz)).length
theorem ahR {ts:List bH} {gz:Int} {xs:List iU} {k:Nat} (h:k < xs.length) (hp:Ws ts gz xs[k] = true):BD ts gz (xs.take (k+1)) = BD ts gz (xs.take k)+1:=by
 unfold BD;rw [List.take_succ_eq_append_getElem h,List.filter_append];simp [hp]
theorem ady {ts:List bH} {gz:Int} {xs:List iU} {k:Nat} (h:k < xs.length) (hp:Ws ts gz xs[k] = false):BD ts gz (xs.take (k+1)) = BD ts gz (xs.take k):=by
 unfold BD;rw [List.take_succ_eq_append_getElem h,List.filter_append];simp [hp]
theorem UN (ts:List bH) (gz:Int) (xs:List iU):BD ts gz xs<=xs.length:=List.length_filter_le _ _
theorem aee (ts:List bH) (gz:Int) (xs:List iU) (k:Nat):BD ts gz (xs.take k)<=k:=Nat.le_trans (UN _ _ _) Wq
theorem UQ (ts:List bH) (xs:List iU) (gz:Int) (A B:Option Addr) (n m c d:Nat) (F G:List Nat) (w:World) (h:Sl w ts A c F) (h':Sl w xs B d G) (hn:n = ts.length) (hm:m = xs.length) (hl:(ts.length:Int)<=1048576) (zR:(xs.length:Int)<=1048576)
 (cR:(∀t∈ts,(t.key.size:Int)<=1048576/\(t.value.size:Int)<=1048576)) (P7:(∀x∈xs,(x.key.size:Int)<=1048576/\(x.value.size:Int)<=1048576)) :
 Calls Tryz.prog 180 #[.slice A n c,.slice B m d,.int .i64 gz] w λe w'=>e = .returned (.int .i64 (BD ts gz xs))/\Below w.heap.size w w':=by
 subst hm;subst hn;have Eo:=I cR;have HSX:=I P7;clear cR P7;go_enter Tryz.func180,Tryz.ntmps180;go_wp2_with fail
 go_loopw [7,8] (λx i wr=>∃k:Nat,k<=xs.length/\i = .int .i64 k/\x = .int .i64 (BD ts gz (xs.take k))/\Below w.heap.size w wr) (λ_ i _=>xs.length - (intOf i).toNat)
 case atStart=>exact ⟨0,Nat.zero_le _,rfl,rfl,bc⟩
 case round =>
  obtain ⟨k,hk,rfl,rfl,ax⟩:=hrel;by_cases am:k < xs.length
  ·obtain ⟨b,o,ck,Fk,rfl,o9,hbs,hr,bm,hc⟩:=(Sl.ext (w':=wr) (A:=B) (c:=d) h' ax).get am;obtain ⟨aq,su,b9,kP,lD⟩:=oK hr;subst aq;obtain ⟨q0,q1,q2⟩:=iX 3 hc;clear hc;obtain ⟨cF,cC⟩:=HSX.out xs[k] (List.getElem_mem ..);have hnt:=aee ts gz xs k;generalize hz:(BD ts gz (xs.take k):Int) = z at *;have lU:((xs[k].effect != gz) || (ts.take 0).any (λt=>AY t xs[k])) = (xs[k].effect != gz):=S';obtain ⟨wo,hwo⟩:∃wo,wo = wr:=⟨_,rfl⟩;subst hwo;go_wp2_with fail
   go_loopw [9,10] (λv u wi=>∃j:Nat,j<=ts.length/\u = .int .i64 j/\v = .bool ((xs[k].effect != gz) || (ts.take j).any (λt=>AY t xs[k]))/\Below w.heap.size w wi/\Below wo.heap.size wo wi) (λ_ u _=>ts.length - (intOf u).toNat)
   case atStart=>exact ⟨0,Nat.zero_le _,rfl,by rw [lU],ax,aj _⟩
   case round =>
    obtain ⟨j,hj,rfl,rfl,hbi,nB⟩:=hrel;replace q0:=r' nB q0 hbs;replace q1:=r' nB q1 hbs;replace q2:=r' nB q2 hbs;replace hbs:=Nat.lt_of_lt_of_le hbs nB.size;by_cases gp:j < ts.length
    ·obtain ⟨b2,o2,ck2,Fk2,rfl,ayO,uO,fb,ju,bX⟩:=(Sl.ext (w':=wr) (A:=A) (c:=c) h hbi).get gp;obtain ⟨aq,abT,vC,rP,uY⟩:=jv fb;subst aq;obtain ⟨p0,p1,p2,p3⟩:=sJ 4 bX;clear bX;obtain ⟨sx,vb⟩:=Eo.out ts[j] (List.getElem_mem ..);have Uw:(ts.take (j+1)).any (λt=>AY t xs[k]) = ((ts.take j).any (λt=>AY t xs[k]) || AY ts[j] xs[k]):=(by rw [List.take_succ_eq_append_getElem gp,List.any_append];simp);generalize hv:((xs[k].effect != gz) || (ts.take j).any (λt=>AY t xs[k])) = v at *;have dC:((xs[k].effect != gz) || (ts.take (j+1)).any (λt=>AY t xs[k])) = (v || AY ts[j] xs[k]):=(by rw [Uw,<- Bool.or_assoc,hv]);have Jf:=I dC;clear dC Uw hv lU;cases v
     all_goals
      go_wp2_with fail
      refine aF _ U' U' (aj _) ?_
      repeat (first
       | (apply aG
          case hw=>rfl
          simp only [Act.put,pz])
       | (apply aH
          case hw=>rfl
          case h =>
           intro wq hq;have cN:=(aB hq).1;have lJ:=(aB hq).2;go_simp
           first
            | exact ⟨hq,rfl⟩
            | exact ⟨aQ hq _,rfl⟩
            | (refine (ahN ts[j] xs[k] _ _ _ [] _ (aJ fb atV) (Q8 _ xs[k] b9 kP lD) sx vb cF cC).mono ?_;rintro e w2 ⟨rfl,ap⟩;exact ⟨rfl,aI hq ap⟩)
            | (simp only [↓IntWalk.iteOmega];exact ⟨hq,rfl⟩)
          simp only [Act.put,pz]))
      refine aN ?_;intro wn hn;replace hn:=hn.out;go_wp2;exact ⟨⟨j+1,J,N',by rw [Jf.out];rfl,ah hbi hn,ah nB hn⟩,by simp [intOf];omega⟩
    ·have MX:j = ts.length:=J;subst MX;rw [List.take_length];cases hef:(xs[k].effect == gz) <;> cases han:(ts.any λt=>AY t xs[k])
     all_goals
      have hp:Ws ts gz xs[k] = _:=(by unfold Ws;rw [hef,han]);simp only [Bool.false_and,Bool.true_and,Bool.not_true,Bool.not_false] at hp;first | have HN:=I (ahR am hp) | have HN:=I (ady am hp)
      have bN:(xs[k].effect != gz) = _:=(by unfold bne;rw [hef]);rw [bN];clear hp han;go_wp2;exact ⟨⟨k+1,J,N',by rw [HN.out,<- hz] <;> first | rfl | go_num,hbi⟩,by simp [intOf];omega⟩
  ·exact Dg
def Rt (nm:ByteArray) (x:aU) (p:nI):Int :=
 if pK (iM nm) x.aa < 0 then 0 else
 match x.aa[(pK (iM nm) x.aa).toNat]? with
 | none=>0
 | some h=>max 0 (100 - 25 * (BD p.ae 2 h.aT:Int))
theorem amY {nm:ByteArray} {x:aU} {p:nI} (h:pK (iM nm) x.aa = -1):Rt nm x p = 0:=by unfold Rt;rw [h];rfl
theorem aje {nm:ByteArray} {x:aU} {p:nI} {k:Nat} (hk:k < x.aa.length) (h:pK (iM nm) x.aa = k):Rt nm x p = max 0 (100 - 25 * (BD p.ae 2 x.aa[k].aT:Int)):=by
 unfold Rt;rw [h,if_neg J,Int.toNat_natCast,List.getElem?_eq_getElem hk]
theorem acy (n:Int) (w:World) (h:n<=100) (h0:-9223372036854775808<=n):Calls Tryz.prog 179 #[.int .i64 n,.int .i64 0,.int .i64 100] w λe w'=>e = .returned (.int .i64 (max 0 n))/\w' = w:=by
 by_cases hn:n < 0
 ·rw [show max 0 n = 0 by omega];go_enter Tryz.func179,Tryz.ntmps179;go_wp2;go_ret
  exact ⟨rfl,rfl⟩
 ·rw [show max 0 n = n by omega];go_enter Tryz.func179,Tryz.ntmps179;go_wp2;go_ret
  exact ⟨rfl,rfl⟩
theorem ZI (x:aU) (p:nI) (cs ps:List Value) (F G:List Nat) (nm:ByteArray) (w:World) (h:rd w x cs F) (h':rd w p ps G) (hw:(x.wt:Int)<=1048576) (ic:(p.wt:Int)<=1048576) :
 Calls Tryz.prog 153 #[.agg cs.toArray,.string nm,.agg ps.toArray] w λe w'=>e = .returned (.int .i64 (Rt nm x p))/\Below w.heap.size w w':=by
 have fv:x.wt = kL az.wt x.aa+kL ag.wt x.O:=rfl;have Ey:p.wt = p.name.size+kL ao.wt p.labels+kL aE.wt p.af+kL bH.wt p.ae:=rfl;have cA:(x.aa.length:Int)<=1048576:=by have:=gJ az.wt x.aa;omega
 obtain ⟨fu,dr⟩:=FQ (xs:=p.ae) J;have Ux:=I dr;clear dr;obtain ⟨bG,bD,fQ,dn,bW,jg,aq,hF,bQ,dM,hnext,aV,aP,aW⟩:=aO h;obtain ⟨bY,bZ,iq,eU,eX,jV,bg,bn,dK,jU,hG,jW,dA,kQ,lg,lG,iO,bK⟩:=dL h';subst aq jU;rcases yg (iM nm) x.aa with hi | ⟨k,hk,hi⟩
 ·have HF:=I (amY (p:=p) hi);have HI:=I hi;clear hi;go_enter Tryz.func153,Tryz.ntmps153;go_wp2_with fail
  refine (gQ x _ _ nm _ (aJ h bc) cA).mono ?_;rw [HI.out];rintro e w2 ⟨rfl,ap⟩;exact ep
 ·have HF:=I (aje (p:=p) hk hi);have HI:=I hi;clear hi;have df:(kL iU.wt x.aa[k].aT:Int)<=1048576:=by
   have h1:=rM (f:=az.wt) hk;have h2:az.wt x.aa[k] = x.aa[k].name.size+kL ao.wt x.aa[k].labels+kL iU.wt x.aa[k].aT:=rfl;omega
  obtain ⟨gF,AG⟩:=BH df;have HXS:=I AG;clear AG;have Zr:=UN p.ae 2 x.aa[k].aT;obtain ⟨b,o,ck,Fk,rfl,o9,hbs,hr,bm,hc⟩:=Sl.get (α:=az) (A:=bG) (c:=bD) bQ hk;obtain ⟨jM,jO,sN,jE,jF,sO,aq,su,zM,qY,Gt,Gw,xg,qA⟩:=iy hr;subst aq;obtain ⟨q0,q1,q2,q3,q4,q5⟩:=mN 6 hc;clear hc;go_enter Tryz.func153,Tryz.ntmps153;go_wp2_with fail
  refine (gQ x _ _ nm _ (aJ h bc) cA).mono ?_;rw [HI.out];rintro e w2 ⟨rfl,ap⟩;obtain ⟨bX,cE⟩:=ay ap;have cr:w.heap.size+1 < w2.heap.size:=sq ap.size;have nu:w.heap.size < w2.heap.size:=by omega
  have eu:Below w.heap.size w w2:=bc;replace q5:=r' eu q5 hbs;have uO:b < w2.heap.size:=by omega
  have P':∀wq,Below w.heap.size w wq->Calls Tryz.prog 180 #[.slice bg p.ae.length bn,.slice jE x.aa[k].aT.length jF,.int .i64 2] wq λe w'=>e = .returned (.int .i64 (BD p.ae 2 x.aa[k].aT))/\Below wq.heap.size wq w' :=
   λwq hq=>UQ p.ae x.aa[k].aT 2 _ _ _ _ _ _ _ _ _ (bK.ext hq) (qA.ext hq) rfl rfl fu gF Ux.out HXS.out
  have HUT:=I P';clear P';generalize BD p.ae 2 x.aa[k].aT = z at HUT HF Zr;have vu:(z:Int)<=1048576:=by omega
  have hZ:IntKind.i64.wrap (25 * (z:Int)) = 25 * (z:Int):=IntWalk.i64_in _ J;have nF:IntKind.i64.wrap (100 - 25 * (z:Int)) = 100 - 25 * (z:Int):=IntWalk.i64_in _ J;by_cases hpos:(100:Int) - 25 * (z:Int)<=0
  ·have hM:max 0 (100 - 25 * (z:Int)) = 0:=J;have HM:=I hM;clear hM;go_wp2_with fail
   refine aF w2 U' U' (aj _) ?_
   repeat ((first | refine aG J' ?_ | refine aH _ J' L' ?_);simp only [Act.put,pz])
   refine aN ?_;intro wn hn;replace hn:=hn.out;go_wp2;go_ret
   exact ⟨by rw [HF.out,HM.out];rfl,ah eu hn⟩
  ·have aad:(0:Int) < 100 - 25 * (z:Int):=J;have hM:max 0 (100 - 25 * (z:Int)) = 100 - 25 * (z:Int):=J;have HM:=I hM;clear hM;have eC:(100:Int) - 25 * (z:Int)<=100:=J;go_wp2_with fail
   refine aF w2 U' U' (aj _) ?_
   repeat ((first | refine aG J' ?_ | refine aH _ J' L' ?_);simp only [Act.put,pz])
   refine aN ?_;intro wn hn;replace hn:=hn.out;go_wp2;go_ret
   exact ⟨by rw [HF.out,HM.out] <;> first | rfl | (simp;omega),ah eu hn⟩
end Go.Proofs.YtjahcnjmjahbaaaGreat
