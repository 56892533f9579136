/- markStringS, heldStringS, markLabelS, heldLabelS: prototypes -/
import Derived.Test.YthjdahommnnliaaGreatMark
import Derived.Laws.IdiomCopy
import Derived.Test.YthjdahommnnliaaGreatSz
import Derived.Test.YthjdahommnnliaaGreatToBase
import Derived.Test.YthjdahommnnliaaGreatAppendAt
import Derived.Deep.Upon
import Derived.Deep.AppendSrc
namespace Go.Proofs.YthjdahommnnliaaGreat
open Go.ChangeShapes Go.WideShapes Go.ChangeAt Go.RowKit
set_option linter.unusedVariables false
set_option linter.unusedSimpArgs false
def mkStr (_:ByteArray) (k:Int):ByteArray:=lZ k
def nU (_:ByteArray):Nat:=1
set_option maxRecDepth 100000 in
set_option maxHeartbeats 1000000 in
theorem Dy (xs:List ByteArray) (A:Option Addr) (n c:Nat) (F:List Nat) (B:Nat) (k:Int) (w:World) (h:Own w B xs [.slice A n c] F) (hn:n = xs.length) (hk0:0≤k) (hk:k+cO nU xs≤1073741823) :
 Calls Tryz.prog 140 #[.slice A n c,.int .i64 k] w fun e w'=>e = .returned (.int .i64 (k+cO nU xs))∧Own w' B (EX mkStr nU xs k) [.slice A n c] F∧nN F w w':=by
 subst hn
 have hlen:(xs.length:Int)≤9223372036854775807:=by
  have:=h.rd
  obtain ⟨_,_,_,_,e,h1,h2,_⟩:=this
  unfold maxLen at h2
  simp at e
  omega
 go_enter Tryz.func140,Tryz.ntmps140
 go_wp2_with fail
 go_loopw [1,5] (fun x y wr=>∃(i:Nat),i≤xs.length∧y = .int .i64 i∧x = .int .i64 (k+cO nU (xs.take i))∧Own wr B (Jd mkStr nU xs k i) [.slice A xs.length c] F∧nN F w wr) (fun _ y _=>xs.length - (intOf y).toNat)
 case atStart=>exact ⟨0,Nat.zero_le _,rfl,by simp [cO],by rw [Kr];exact h,.refl _ _⟩
 case round =>
  obtain ⟨i,hi,rfl,rfl,hO,hu⟩:=hrel
  by_cases hlt:i < xs.length
  ·have hle:(cO nU (xs.take i):Int)+nU xs[i]≤cO nU xs:=by have:=lU (cnt:=nU) hlt;have:=EG (cnt:=nU) xs (i+1);omega
   have JQ:=lU (cnt:=nU) hlt
   obtain ⟨b,o,ck,Fk,rfl,o9,hsub,hbk,LM,hE,hcl⟩:=hO.elt (k:=i) au9
   rw [Oj hlt] at LM
   have hRe:=LM.rd
   obtain ⟨hck,su,hsz⟩:=hRe
   subst hck su
   generalize hkk:k+(cO nU (xs.take i):Int) = kk
   have aaJ:0≤kk:=by omega
   have Ei:kk+nU xs[i]≤1073741823:=by omega
   simp only [nU] at Ei
   go_wp2_with (refine (lW kk _ (by omega) (by omega)).mono ?_;rintro e w2 ⟨rfl,hb2⟩;replace hE:=hE.ext hb2;have hq:=hE.at_ (q:=o+i) (j:=0) awj rfl;have hfz:=hE.plain.frozen (o+i))
   have hE2:=hE.set (q:=o+i) (j:=0) (by simp) awj (.string (lZ kk))
   have hP:=hcl _ (mkStr xs[i] kk) _ (Own.flat (rdStr _ _ (by have:=agD kk (by omega);show ((lZ kk).size:Int)≤_;omega))) hE2
   rw [← hkk,Ol hlt] at hP
   have hU:=hu.trans (hE2.upd.mono (G:=F) (fun y hy=>by rcases List.mem_cons.1 hy with rfl | hy;exact o9;exact hsub y hy))
   rw [← hkk] at hU
   refine ⟨⟨i+1,by omega,by go_num,?_,?_,?_⟩,by simp [intOf];omega⟩
   ·rw [JQ,← hkk];simp only [nU];congr 1;push_cast;omega
   ·rw [← hkk];exact hP
   ·rw [← hkk];exact hU
  ·exact Zabi
set_option maxRecDepth 100000 in
set_option maxHeartbeats 1000000 in
theorem uy (xs:List ByteArray) (A:Option Addr) (n c:Nat) (F:List Nat) (k:Int) (w:World) (h:rd w xs [.slice A n c] F) (hn:n = xs.length) (hm:EX mkStr nU xs k = xs) (hk0:0≤k) (hk:k+cO nU xs≤1073741823) :
 Calls Tryz.prog 178 #[.slice A n c,.int .i64 k] w fun e w'=>e = .returned (.int .i64 (k+cO nU xs))∧Below w.heap.size w w':=by
 subst hn
 have hlen:(xs.length:Int)≤9223372036854775807:=by
  have:=h
  obtain ⟨_,_,_,_,e,h1,h2,_⟩:=this
  unfold maxLen at h2
  simp at e
  omega
 have HM:=Lib.hid hm
 clear hm
 go_enter Tryz.func178,Tryz.ntmps178
 go_wp2_with fail
 go_loopw [1,5] (fun x y wr=>∃(i:Nat),i≤xs.length∧y = .int .i64 i∧x = .int .i64 (k+cO nU (xs.take i))∧Below w.heap.size w wr) (fun _ y _=>xs.length - (intOf y).toNat)
 case atStart=>exact ⟨0,Nat.zero_le _,rfl,by simp [cO],aj _⟩
 case round =>
  obtain ⟨i,hi,rfl,rfl,hbl⟩:=hrel
  by_cases hlt:i < xs.length
  ·have hle:(cO nU (xs.take i):Int)+nU xs[i]≤cO nU xs:=by have:=lU (cnt:=nU) hlt;have:=EG (cnt:=nU) xs (i+1);omega
   have JQ:=lU (cnt:=nU) hlt
   have hfix:=PK HM.out hlt
   obtain ⟨b,o,ck,Fk,rfl,o9,hbs,hr,hsub,hc⟩:=(Sl.ext (w':=wr) (A:=A) (c:=c) h hbl).get hlt
   obtain ⟨hck,su,hsz⟩:=hr
   subst hck su
   generalize hkk:k+(cO nU (xs.take i):Int) = kk at hfix ⊢
   have aaJ:0≤kk:=by omega
   have Ei:kk+nU xs[i]≤1073741823:=by omega
   simp only [nU] at Ei
   have q0:wr.cell? ⟨b,o+i,none⟩ = some (.string xs[i]):=by have:=hc 0 _ rfl;rwa [show o+(i * Dat.size ByteArray+0) = o+i from by show o+(i * 1+0) = _;omega] at this
   rw [← hfix] at q0
   simp only [mkStr] at q0
   go_wp2_with fail
   refine aF wr (by kernel_rfl) (by kernel_rfl) (aj _) ?_
   repeat (first
    | (apply aG
       case hw=>rfl
       simp only [Act.put,pz])
    | (apply aH
       case hw=>rfl
       case h =>
        intro wq hq
        have hcq:=(aB hq).1
        have lJ:=(aB hq).2
        go_simp
        first
         | exact ⟨hq,rfl⟩
         | exact ⟨aQ hq _,rfl⟩
         | (refine (lW kk _ (by omega) (by omega)).mono ?_;rintro e w2 ⟨rfl,hb2⟩;exact ⟨rfl,aI hq hb2⟩)
         | (simp only [↓IntWalk.iteOmega];exact ⟨hq,rfl⟩)
       simp only [Act.put,pz]))
   refine aN ?_
   intro wn hn
   replace hn:=hn.out
   go_wp2
   exact ⟨⟨i+1,by omega,by go_num,(by rw [JQ,← hkk];simp only [nU];congr 1;push_cast;omega),ah hbl hn⟩,by simp [intOf];omega⟩
  ·exact Zabl
end Go.Proofs.YthjdahommnnliaaGreat
namespace Go.Proofs.YthjdahommnnliaaGreat
open Go.ChangeShapes Go.WideShapes Go.ChangeAt Go.RowKit
set_option linter.unusedVariables false
set_option linter.unusedSimpArgs false
theorem setCells_size (b:Nat):∀(vs:List Value) (o:Nat) (w:World),(w.setCells b o vs).heap.size = w.heap.size
 | [],_,_=>rfl
 | v :: r,o,w=>by rw [World.setCells,setCells_size b r];simp [World.setCell]
theorem vV (b:Nat) {k:Nat} (hk:k≠b):∀(vs:List Value) (o:Nat) (w:World),(w.setCells b o vs).heap[k]? = w.heap[k]?
 | [],_,_=>rfl
 | v :: r,o,w=>by rw [World.setCells,vV b hk r];exact Below.heap_setCell _ _ _ _ atX
theorem F8 (b:Nat):∀(vs:List Value) (o:Nat) (w:World),(w.setCells b o vs).os = w.os∧(w.setCells b o vs).tape = w.tape∧(w.setCells b o vs).output = w.output
 | [],_,_=>⟨rfl,rfl,rfl⟩
 | v :: r,o,w=>by rw [World.setCells];exact F8 b r (o+1) _
theorem EK (b:Nat):∀(vs:List Value) (o:Nat) (w:World),Plain w b→Plain (w.setCells b o vs) b
 | [],_,_,h=>h
 | v :: r,o,w,h=>by rw [World.setCells];exact EK b r (o+1) _ (h.setCell b o v)
end Go.Proofs.YthjdahommnnliaaGreat
namespace Go.Proofs.YthjdahommnnliaaGreat
open Go.ChangeShapes Go.WideShapes Go.ChangeAt Go.RowKit
set_option linter.unusedVariables false
set_option linter.unusedSimpArgs false
def oG (w:World) (g:Nat) (cs:List Value):Prop:=∃t,w.heap[g]? = some (.cells cs.toArray t (0,0))
section
variable {w w':World} {g:Nat} {cs:List Value}
theorem oG.lt (h:oG w g cs):g < w.heap.size:=by
 obtain ⟨t,h⟩:=h
 rcases Nat.lt_or_ge g w.heap.size with hlt | hge
 ·exact hlt
 ·rw [Array.getElem?_eq_none hge] at h;cases h
theorem oG.cell (h:oG w g cs) {i:Nat} {u:Value} (hi:cs[i]? = some u):w.cell? ⟨g,i,none⟩ = some u:=by
 obtain ⟨t,h⟩:=h
 rw [cell_of_row w g i _ t (0,0) h]
 simpa using hi
theorem oG.fz (h:oG w g cs) (i:Nat):w.frozen? ⟨g,i,none⟩ = false:=by obtain ⟨t,h⟩:=h;simp [World.frozen?,h]
theorem oG.keep (h:oG w g cs) (hk:w'.heap[g]? = w.heap[g]?):oG w' g cs:=by obtain ⟨t,h⟩:=h;exact ⟨t,hk.trans h⟩
theorem oG.put (h:oG w g cs) (i:Nat) (u:Value):oG (w.setCell ⟨g,i,none⟩ u) g (cs.set i u):=by
 obtain ⟨t,h⟩:=h
 exact ⟨t,by simp [World.setCell,Array.getElem?_modify,h]⟩
theorem oG.far (h:oG w g cs) {c:Nat} (hc:c≠g) (i:Nat) (u:Value):oG (w.setCell ⟨c,i,none⟩ u) g cs:=h.keep (Below.heap_setCell _ _ _ _ atX)
theorem oG.new (w:World) (cs:List Value) (t:TypeId):oG (w.alloc (.cells cs.toArray t)) w.heap.size cs:=⟨t,heap_alloc_new w _⟩
theorem oG.ext (h:oG w g cs) (hb:Below w.heap.size w w'):oG w' g cs:=h.keep (hb.block g h.lt)
theorem oG.upd {b:Nat} (h:oG w g cs) (hu:nN [b] w w') (hg:g≠b):oG w' g cs:=h.keep (hu.block g h.lt (by simpa using hg))
end
end Go.Proofs.YthjdahommnnliaaGreat
namespace Go.Proofs.YthjdahommnnliaaGreat
open Go.ChangeShapes Go.WideShapes Go.ChangeAt Go.RowKit
set_option linter.unusedVariables false
set_option linter.unusedSimpArgs false
theorem mW (x:ByteArray) (k:Int):nU (mkStr x k) = nU x:=rfl
theorem Eh (x:ByteArray) (k:Int):mkStr (mkStr x k) k = mkStr x k:=rfl
end Go.Proofs.YthjdahommnnliaaGreat
namespace Go.Proofs.YthjdahommnnliaaGreat
open Go.ChangeShapes Go.WideShapes Go.ChangeAt Go.RowKit
set_option linter.unusedVariables false
set_option linter.unusedSimpArgs false
theorem FN {α:Type} {cnt f:α→Nat} {a:Nat} (h:∀x,cnt x≤a * (f x+1)):∀xs:List α,cO cnt xs≤a * kL f xs
 | []=>by simp [cO]
 | x :: xs=>by
   have h1:=FN h xs
   have h2:=h x
   unfold kL at h1 ⊢
   simp only [cO,List.length_cons,List.map_cons,List.sum_cons]
   have e:a * (xs.length+1+(f x+(xs.map f).sum)) = a * (f x+1)+a * (xs.length+(xs.map f).sum):=by rw [← Nat.mul_add];congr 1;omega
   omega
theorem aiU (x:ByteArray):nU x≤1 * (x.size+1):=by unfold nU;omega
end Go.Proofs.YthjdahommnnliaaGreat
namespace Go.Proofs.YthjdahommnnliaaGreat
open Go.ChangeShapes Go.WideShapes Go.ChangeAt Go.RowKit
set_option linter.unusedVariables false
set_option linter.unusedSimpArgs false
structure Cq3 (w wk:World) (cs zs os:List Value):Prop where
 box:oG wk w.heap.size cs
 rb:oG wk (w.heap.size+1) zs
 ob:oG wk (w.heap.size+1+1) os
 below:Below w.heap.size w wk
section
variable {w wk w':World} {cs zs os:List Value}
theorem Cq3.new (w:World) (cs zs os:List Value) (t t2 t3:TypeId):Cq3 w (((w.alloc (.cells cs.toArray t)).alloc (.cells zs.toArray t2)).alloc (.cells os.toArray t3)) cs zs os :=
 ⟨((oG.new w cs t).ext (ak (aj _) _)).ext (ak (aj _) _),(by have:=oG.new (w.alloc (.cells cs.toArray t)) zs t2;rw [World.size_alloc] at this;exact this.ext (ak (aj _) _)),(by have:=oG.new ((w.alloc (.cells cs.toArray t)).alloc (.cells zs.toArray t2)) os t3;rw [World.size_alloc,World.size_alloc] at this;exact this),ak (ak (ak (aj _) _) _) _⟩
theorem Cq3.ext (h:Cq3 w wk cs zs os) (hb:Below wk.heap.size wk w'):Cq3 w w' cs zs os:=⟨h.box.ext hb,h.rb.ext hb,h.ob.ext hb,ah h.below hb⟩
theorem Cq3.put (h:Cq3 w wk cs zs os) (i:Nat) (u:Value):Cq3 w (wk.setCell ⟨w.heap.size+1+1,i,none⟩ u) cs zs (os.set i u):=⟨h.box.far (by omega) i u,h.rb.far (by omega) i u,h.ob.put i u,aC h.below atX u⟩
end
theorem rd_extN {α:Type} [Dat α] {w w':World} {x:α} {cs:List Value} {F:List Nat} (h:rd w x cs F) (hb:Below w.heap.size w w'):rd w' x cs F:=Dat.frame h (fun b hb'=>hb.block b (Dat.lt h b hb')) hb.size
end Go.Proofs.YthjdahommnnliaaGreat
namespace Go.Proofs.YthjdahommnnliaaGreat
open Go.ChangeShapes Go.WideShapes Go.ChangeAt Go.RowKit
set_option linter.unusedVariables false
set_option linter.unusedSimpArgs false
theorem mY {w:World} {B e size n:Nat} {v:Value} {xs:List Value} (h:w.ownsRow B e size v n xs):∃A c,v = .slice A n c:=by
 rcases h.2 with ⟨rfl,hn⟩ | ⟨g,cap,cur,rfl,_⟩
 ·subst hn;exact ⟨none,0,rfl⟩
 ·exact ⟨_,_,rfl⟩
theorem EJ {w:World} {B e size n c i:Nat} {v u:Value} {xs:List Value} (h:w.ownsRow B e size v n xs) (hc:∀g,v.ownBlock = some g→g≠c):(w.setCell ⟨c,i,none⟩ u).ownsRow B e size v n xs :=
 h.kept (row:=some c) ⟨rfl,rfl,rfl,by simp [World.setCell],fun k hk hne=>Below.heap_setCell _ _ _ _ (by intro e;apply hne;rw [e])⟩ (by
   by_cases hv:v.ownBlock = some c
   ·exact absurd rfl (hc c hv)
   ·exact .inr hv)
section
variable {α:Type} [Dat α]
theorem aY.afm {w w':World} {B B5 e size n:Nat} {v v':Value} {xs:List α} {ds us cs:List Value} {F G:List Nat} {x:α} (row:w.ownsRow B e size v n us) (hcs:aY w B xs ds F) (hne:∀g,v.ownBlock = some g→g∉F)
 (hx:Own w B5 x cs G) (h5:B≤B5) (hv5:∀g,v.ownBlock = some g→g < B5) (hF:∀y∈F,y < B5) (hg:w.grownBy w' v.ownBlock) (hat:v'.ownBlock = v.ownBlock∨v'.ownBlock = some (w.heap.size+1)) :
 aY w' B (xs++[x]) (ds++cs) (F++G)∧∀g,v'.ownBlock = some g→g∉F++G:=by
 have h1:=hcs.push hx h5 hF
 have hno:∀g,v.ownBlock = some g→g∉F++G:=fun g hv hm=>by
  rcases List.mem_append.1 hm with hm | hm
  ·exact hne g hv hm
  ·have:=hx.base g hm;have:=hv5 g hv;omega
 refine ⟨h1.keep (fun y hy=>hg.block y (h1.lt y hy) (fun hv=>hno y hv.symm hy)) hg.size,fun g hv hm=>?_⟩
 rcases hat with hat | hat
 ·exact hno g (hat.symm.trans hv) hm
 ·have h2:=h1.lt g hm
  rw [hat] at hv
  injection hv with hv
  omega
end
theorem Qb {P:Program} {t e:TypeId} {z:Value} {size bytes:Nat} (hE:DL P t e z size bytes) {o:Oper} {a:Act} {K:Act→World→Prop} {Q:Exit→Act→World→Prop} (s x:Operand)
 (ho:o.op = .call { callee:=.builtin .append,args:=#[s,x],argTypes:=#[t,t] })
 (w:World) (base:Nat) (v:Value) (n:Nat) (xs:List Value) (hown:w.ownsRow base e size v n xs) (hs:a.eval s = v)
 (cs:List Value) (hx:a.eval x = .slice (some ⟨w.heap.size,0,none⟩) 1 1) (hl:cs.length = size) (h1:∀u∈cs,u.oneCell' = true)
 (hn:n≤2097152) (hby:bytes≤4096) (hbase:base≤w.heap.size)
 (h:∀v' w',w'.ownsRow base e size v' (n+1) (xs++cs)→w.grownBy w' v.ownBlock→w.heap.size+1≤w'.heap.size→(v'.ownBlock = v.ownBlock∨v'.ownBlock = some (w.heap.size+1))→K (a.put o.dst v') w'):o.wp P a (w.alloc (.cells cs.toArray e)) K Q:=by
 obtain ⟨ht,hi0,hzs,hsz⟩:=hE
 obtain ⟨i,hi,hz,hsize,hb⟩:=info_parts hi0
 have hbb:(n+1) * bytes≤2097153 * 4096:=Nat.mul_le_mul (by omega) hby
 have hnews:∀j u,cs[j]? = some u→(w.alloc (.cells cs.toArray e)).cell? ((⟨w.heap.size,0,none⟩:Addr).add j) = some u:=by
  exact Zabu
 obtain ⟨v',w',hr,h2,h3,h4,h5⟩:=run_append_own_at (P:=P) (w.alloc (.cells cs.toArray e)) base t o.type e i z size bytes ht hi hz hsize hb hzs hsz v n xs (hown.alloc _) ⟨w.heap.size,0,none⟩ 1 1 cs (by omega) hnews h1 at6 (by omega) (by simp;omega)
 unfold Oper.wp execOp
 simp only [ho,resolve,invoke,builtin,Sem.run_bind,Sem.run_pure,Result.andThen_ok,List.map_toArray,List.map_cons,List.map_nil,hs,hx,hr]
 refine h v' w' h2 ⟨h3.os,h3.tape,h3.output,Nat.le_trans (by simp) h3.size,fun k hk hne=>?_⟩ (by have:=h3.size;simpa using this) (by simpa using h5)
 rw [h3.block k (by simp;omega) hne]
 exact Below.heap_alloc _ _ _ hk
theorem rW {α:Type} [Dat α] {P:Program} {t e:TypeId} {z:Value} {size bytes:Nat} (hE:DL P t e z size bytes) (hd:Dat.size α = size) {ops:Array Oper} {rest:List Oper} {o:Oper} {a:Act} {Q:Exit→Act→World→Prop} (hgd:o.guard = none) (s x:Operand)
 (ho:o.op = .call { callee:=.builtin .append,args:=#[s,x],argTypes:=#[t,t] })
 (w:World) (base:Nat) (v:Value) (n:Nat) (xs:List Value) (hown:w.ownsRow base e size v n xs) (hs:a.eval s = v)
 (ys:List α) (A:Option Addr) (c:Nat) (F:List Nat) (hsl:Sl w ys A c F) (hx:a.eval x = .slice A ys.length c)
 (hn:n+ys.length≤2097152) (hby:bytes≤4096) (hbase:base≤w.heap.size)
 (h:∀v' w' ds G,jo w ys ds G→(∀b∈G,b∈F)→w'.ownsRow base e size v' (n+ys.length) (xs++ds)→w.grownBy w' v.ownBlock→(v'.ownBlock = v.ownBlock∨v'.ownBlock = some w.heap.size)→wpList P ops Q rest (a.put o.dst v') w'):wpList P ops Q (o :: rest) a w:=by
 subst hd
 obtain ⟨ht,hi0,hzs,hsz⟩:=hE
 obtain ⟨i,hi,hz,hsize,hb⟩:=info_parts hi0
 have hbb:(n+ys.length) * bytes≤2097152 * 4096:=Nat.mul_le_mul hn hby
 obtain ⟨A',c',G,ds,e0,h1,h2,hc,h0⟩:=hsl
 simp only [List.cons.injEq,Value.slice.injEq,and_true,true_and] at e0
 obtain ⟨rfl,rfl⟩:=e0
 have some_:∀(ad:Addr),A = some ad→(∀j u,ds[j]? = some u→w.cell? (ad.add j) = some u)→wpList P ops Q (o :: rest) a w:=by
  intro ad hA hcell
  subst hA
  have hG:∀b∈G,b∈F:=by
   rcases h0 with ⟨rfl,rfl⟩ | ⟨b,o',_,rfl,_⟩
   ·rw [hc.2];intro b hb;cases hb
   ·intro x hx;exact List.mem_cons_of_mem _ hx
  exact wpList_append_own_at w hgd s x t ho base e i z (Dat.size α) bytes ht hi hz hsize hb hzs hsz v n xs hs hown ad ys.length c ds hx hc.len hcell hc.one at6 (by omega) hbase (fun v' w' hown' hg _ hat=>h v' w' ds G hc hG hown' hg hat)
 rcases h0 with ⟨rfl,rfl⟩ | ⟨b,o',hA,rfl,hb,hcell⟩
 ·obtain ⟨rfl,rfl⟩:=hc
  cases A with
  | some ad=>exact some_ ad rfl (fun j u hu=>by simp at hu)
  | none =>
    have fin:∀(A2:Option Addr) (cap:Nat),v = .slice A2 n cap→n≤cap→wpList P ops Q (o :: rest) a w:=by
     intro A2 cap hv hle
     refine wpList_plain hgd fun K hK=>?_
     have hr:=run_append_nothing (P:=P) w t t o.type e i ht hi A2 n cap hle (.slice none 0 c) (Src.ofNil w ht c)
     unfold Oper.wp execOp
     simp only [ho,resolve,invoke,builtin,Sem.run_bind,Sem.run_pure,Result.andThen_ok,List.map_toArray,List.map_cons,List.map_nil,hs,hv,hx,List.length_nil,hr]
     refine hK _ _ ?_
     subst hv
     exact h _ w [] [] ⟨rfl,rfl⟩ (fun b hb=>hb) (by simpa using hown) ⟨rfl,rfl,rfl,Nat.le_refl _,fun _ _ _=>rfl⟩ (.inl rfl)
    rcases hown.2 with ⟨hv,hn0⟩ | ⟨g,cap,cur,hv,_,_,hle,_⟩
    ·exact fin none 0 (by rw [hv,hn0]) (by omega)
    ·exact fin _ cap hv hle
 ·refine some_ _ hA fun j u hu=>?_
  rw [show (⟨b,o',none⟩:Addr).add j = ⟨b,o'+j,none⟩ from by unfold Addr.add;split <;> simp_all]
  exact hcell j u hu
section
variable {α:Type} [Dat α] {w:World}
theorem abn (hf:∀{w:World} {x:α} {cs:List Value} {F:List Nat},rd w x cs F→F = []):∀{xs:List α} {ds:List Value} {F:List Nat},jo w xs ds F→F = []
 | [],_,_,h=>h.2
 | x :: xs,_,_,⟨c1,c2,F1,F2,_,rfl,h1,h2⟩=>by rw [hf h1,abn hf h2];rfl
theorem Own.of_flat {B:Nat} {e:TypeId} {v:Value} {xs:List α} {ds:List Value} {F:List Nat} (hf:∀{w:World} {x:α} {cs:List Value} {F:List Nat},Go.Proofs.YthjdahommnnliaaGreat.Dat.rd w x cs F→F = []) (h0:w.ownsRow B e (Dat.size α) v xs.length ds) (h:jo w xs ds F) :
 ∃A c G,v = .slice A xs.length c∧Own w B xs [.slice A xs.length c] G:=by
 obtain rfl:=abn hf h
 exact Own.oJ h0 ⟨h,List.nodup_nil,(fun b hb=>by cases hb),(fun b hb=>by cases hb)⟩ (fun g _ hm=>by cases hm)
end
theorem Fill.oJ {w:World} {B e size n:Nat} {v:Value} {ds:List Value} (h:w.ownsRow B e size v n ds):(v = .slice none 0 0∧n = 0)∨∃g cap N,v = .slice (some ⟨g,0,none⟩) n cap∧B≤g∧Fill w g e N ds∧n≤cap∧cap≤maxLen:=by
 rcases h with ⟨hl,h | ⟨g,cap,cur,rfl,hb,hh,hle,hm,hcs,ht⟩⟩
 ·exact .inl h
 ·refine .inr ⟨g,cap,cur.size,rfl,hb,⟨cur,hh,rfl,?_,fun j u hu=>?_⟩,hle,hm⟩
  ·rw [hl,hcs];exact Nat.mul_le_mul_right _ hle
  ·exact Zab3
theorem Fill.set {w:World} {g:Nat} {t:TypeId} {N:Nat} {ds:List Value} (h:Fill w g t N ds) {i:Nat} (hi:i < ds.length) (u:Value):Fill (w.setCell ⟨g,i,none⟩ u) g t N (ds.set i u):=by
 obtain ⟨cs,h,rfl,hl,hc⟩:=h
 refine ⟨cs.setIfInBounds i u,?_,by simp,by simpa using hl,fun j v hv=>?_⟩
 ·simp [World.setCell,Array.getElem?_modify,h]
 ·by_cases hj:i = j
  ·subst hj
   rw [List.getElem?_set_self hi] at hv
   cases hv
   rw [Array.getElem?_setIfInBounds_self_of_lt (by omega)]
  ·rw [List.getElem?_set_ne hj] at hv
   rw [Array.getElem?_setIfInBounds_ne hj]
   exact hc j v hv
theorem Fill.at_ {w:World} {g:Nat} {t:TypeId} {N:Nat} {ds:List Value} (h:Fill w g t N ds) {j:Nat} {u:Value} (hj:ds[j]? = some u):w.cell? ⟨g,j,none⟩ = some u:=by have:=h.cells j u hj;simpa using this
end Go.Proofs.YthjdahommnnliaaGreat
