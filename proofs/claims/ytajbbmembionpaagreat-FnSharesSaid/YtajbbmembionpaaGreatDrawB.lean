/- The cursor of a draw: one byte, a number below a bound, one of some. No condition. -/
import Derived.Test.YtajbbmembionpaaGreatBlk
import Derived.Deep.Upon
namespace Go.Proofs.YtajbbmembionpaaGreat
open Go.ChangeShapes Go.WideShapes Go.ChangeAt Go.RowKit
set_option linter.unusedVariables false
set_option linter.unusedSimpArgs false
set_option maxHeartbeats 2000000
set_option maxRecDepth 100000
theorem Kg (a:Int) (m:Nat) (hm:m < 9223372036854775808):0≤bits .and .i64 a (m:Int)∧bits .and .i64 a (m:Int)≤m:=by
 have h2:(BitVec.ofInt 64 (m:Int)).toNat = m:=by rw [BitVec.ofInt_natCast,BitVec.toNat_ofNat];exact Nat.mod_eq_of_lt J
 have h3:(BitVec.ofInt 64 a &&& BitVec.ofInt 64 (m:Int)).toNat≤m:=by rw [BitVec.toNat_and,h2];exact Nat.and_le_right
 have e:bits .and .i64 a (m:Int) = IntKind.i64.wrap ((BitVec.ofInt 64 a &&& BitVec.ofInt 64 (m:Int)).toNat:Int):=rfl;rw [e,IntKind.wrap_i64];omega
theorem Kh (a:Int):br (wrap64 a):=by unfold wrap64 br;omega
theorem FR (w:World) (c:Nat) (A:Option Addr) (n aq:Nat) (h:bM w c A n aq) :
 Calls Tryz.prog 94 #[.pointer (some ⟨c,0,none⟩)] w fun e w'=>∃r:Int,e = .returned (.int .i64 r)∧(0≤r∧r≤255)∧bM w' c A n aq∧nN [c] w w':=by
 obtain ⟨i0,x0,hi,hx,c0,c1,c2,hfz⟩:=h.cells;have ax:=h.lt;have cL:=hfz 2;have H:=I h;clear h hfz hi hx;go_enter Tryz.func94,Tryz.ntmps94;go_wp2;have hu:nN [c] w (w.setCell ⟨c,2,none⟩ (.int .i64 (wrap64 (wrap64 (x0 * 6364136223846793005)+1442695040888963407)))):=(nN.refl _ _).setCell S' _;have H1:=H.out.number (x:=wrap64 (wrap64 (x0 * 6364136223846793005)+1442695040888963407)) (Kh _);generalize w.setCell ⟨c,2,none⟩ (.int .i64 (wrap64 (wrap64 (x0 * 6364136223846793005)+1442695040888963407))) = w1 at *;clear c0 c1 c2 cL;obtain ⟨i,x,hi,hx,c0,c1,c2,hfz⟩:=H1.cells;have hs:=H1.small;have gc:=hfz 1;have fp:=H1.lt;by_cases hk:i < n
 ·obtain ⟨k,rfl⟩:∃k:Nat,i = k:=⟨i.toNat,J⟩;obtain ⟨g,o,v,rfl,hg,hv,fW,ss⟩:=H1.byte (k:=k) J;replace H1:=I H1;go_region
  obtain ⟨y,hy,hy0,Ki⟩:∃y,bits BinOp.and IntKind.i64 (bits BinOp.xor IntKind.i64 (x / 8589934592) (x / 35184372088832)) 255 = y∧0≤y∧y≤255:=⟨_,rfl,Kg _ 255 (by decide)⟩;simp only [hy];clear hy;go_wp2;go_region
  go_wp2;go_region
  go_wp2;go_ret
  exact ⟨_,rfl,Kg _ 255 (by decide),(H1.out.FO J).drew.drew.drew,((hu.setCell S' _).drew.drew.drew)⟩
 ·replace H1:=I H1;go_region
  obtain ⟨y,hy,hy0,Ki⟩:∃y,bits BinOp.and IntKind.i64 (bits BinOp.xor IntKind.i64 (x / 8589934592) (x / 35184372088832)) 255 = y∧0≤y∧y≤255:=⟨_,rfl,Kg _ 255 (by decide)⟩;simp only [hy];clear hy;go_wp2;go_region
  go_wp2;go_ret
  exact ⟨_,rfl,⟨hy0,Ki⟩,H1.out.drew.drew,hu.drew.drew⟩
theorem fs (m:Nat) (hm:0 < m∧(m:Int)≤1000000000) (w:World) (c:Nat) (A:Option Addr) (n aq:Nat) (h:bM w c A n aq) :
 Calls Tryz.prog 53 #[.pointer (some ⟨c,0,none⟩),.int .i64 m] w fun e w'=>∃r:Nat,e = .returned (.int .i64 r)∧r < m∧bM w' c A n aq∧nN [c] w w':=by
 obtain ⟨RQ,lI⟩:=hm;have ax:=h.lt;have HC:=I h;clear h;by_cases hs:(m:Int)≤256
 ·go_enter Tryz.func53,Tryz.ntmps53;go_wp2_with fail
  refine (FR _ c A n aq HC.out).mono ?_;rintro e w1 ⟨r,rfl,⟨du,cW⟩,H1,hu⟩;obtain ⟨k,rfl⟩:∃k:Nat,r = k:=⟨r.toNat,J⟩;replace H1:=I H1;go_wp2;go_ret
  exact ⟨k % m,S',Nat.mod_lt _ RQ,H1.out,hu⟩
 ·go_enter Tryz.func53,Tryz.ntmps53;go_wp2_with fail
  refine (FR _ c A n aq HC.out).mono ?_;rintro e w1 ⟨r1,rfl,⟨du,cW⟩,H1,hu1⟩;replace H1:=I H1;go_wp2_with fail
  refine (FR _ c A n aq H1.out).mono ?_;rintro e w2 ⟨r2,rfl,⟨sx,ei⟩,H2,bN⟩;replace H2:=I H2;go_wp2_with fail
  refine (FR _ c A n aq H2.out).mono ?_;rintro e w3 ⟨r3,rfl,⟨jz,dB⟩,H3,bu⟩;replace H3:=I H3;go_wp2_with fail
  refine (FR _ c A n aq H3.out).mono ?_;rintro e w4 ⟨r4,rfl,⟨ht0,RS⟩,H4,Td⟩;replace H4:=I H4;go_wp2;go_ret
  obtain ⟨q,hq⟩:∃q:Nat,r1 * 16777216+r2 * 65536+r3 * 256+r4 = q:=⟨(r1 * 16777216+r2 * 65536+r3 * 256+r4).toNat,J⟩;exact ⟨q % m,(by simp [hq]),Nat.mod_lt _ RQ,H4.out,(hu1.trans bN).trans (bu.trans Td)⟩
theorem sy (m:Nat) (hm:0 < m∧(m:Int)≤1000000000) (w:World) (c:Nat) (A:Option Addr) (n aq:Nat) (h:bM w c A n aq) :
 Calls Tryz.prog 113 #[.pointer (some ⟨c,0,none⟩),.int .i64 m] w fun e w'=>∃r:Bool,e = .returned (.bool r)∧bM w' c A n aq∧nN [c] w w':=by
 have HC:=I h;clear h;have HM:=I hm;clear hm;go_enter Tryz.func113,Tryz.ntmps113;go_wp2_with fail
 refine (fs m HM.out _ c A n aq HC.out).mono ?_;rintro e w1 ⟨k,rfl,hk,H1,hu⟩;replace H1:=I H1;go_wp2;go_ret
 exact ⟨_,rfl,H1.out,hu⟩
theorem uW (S:ByteArray→Prop) (g m mc:Nat) (hm:0 < m∧(m:Int)≤1000000000) (w:World) (c:Nat) (A:Option Addr) (n aq:Nat) (h:bM w c A n aq) (hg:g≠c) (jH:g < w.heap.size) (hS:∀k,k < m→∃s,w.cell? ⟨g,k,none⟩ = some (.string s)∧S s) :
 Calls Tryz.prog 116 #[.pointer (some ⟨c,0,none⟩),.slice (some ⟨g,0,none⟩) m mc] w fun e w'=>∃s,e = .returned (.string s)∧S s∧bM w' c A n aq∧nN [c] w w':=by
 have HC:=I h;clear h;have HM:=I hm;clear hm;go_enter Tryz.func116,Tryz.ntmps116;go_wp2_with fail
 refine (fs m HM.out _ c A n aq HC.out).mono ?_;rintro e w1 ⟨k,rfl,hk,H1,hu⟩;replace H1:=I H1;obtain ⟨s,hs,cR⟩:=hS k hk;have nU:(k:Int) < m:=by omega
 have dB:w1.cell? ⟨g,k,none⟩ = some (.string s):=by rw [← hs];exact World.cell?_of_block (hu.block g jH (by simpa using hg))
 go_wp2;go_ret
 exact ⟨_,rfl,cR,H1.out,hu⟩
theorem yX (S:Int→Prop) (g m mc:Nat) (hm:0 < m∧(m:Int)≤1000000000) (w:World) (c:Nat) (A:Option Addr) (n aq:Nat) (h:bM w c A n aq) (hg:g≠c) (jH:g < w.heap.size) (hS:∀k,k < m→∃s,w.cell? ⟨g,k,none⟩ = some (.int .i64 s)∧S s) :
 Calls Tryz.prog 72 #[.pointer (some ⟨c,0,none⟩),.slice (some ⟨g,0,none⟩) m mc] w fun e w'=>∃s,e = .returned (.int .i64 s)∧S s∧bM w' c A n aq∧nN [c] w w':=by
 have HC:=I h;clear h;have HM:=I hm;clear hm;go_enter Tryz.func72,Tryz.ntmps72;go_wp2_with fail
 refine (fs m HM.out _ c A n aq HC.out).mono ?_;rintro e w1 ⟨k,rfl,hk,H1,hu⟩;replace H1:=I H1;obtain ⟨s,hs,cR⟩:=hS k hk;have nU:(k:Int) < m:=by omega
 have dB:w1.cell? ⟨g,k,none⟩ = some (.int .i64 s):=by rw [← hs];exact World.cell?_of_block (hu.block g jH (by simpa using hg))
 go_wp2;go_ret
 exact ⟨_,rfl,cR,H1.out,hu⟩
theorem Kj (w:World) (A:Option Addr) (n aq:Nat) (Z:(n:Int)≤1048576) (ce:∀k,k < n→∃(g o:Nat) (v:Int),A = some ⟨g,o,none⟩∧g < w.heap.size∧w.cell? ⟨g,o+k,none⟩ = some (.int .u8 v)∧0≤v∧v≤255) :
 Calls Tryz.prog 33 #[.slice A n aq] w fun e w'=>∃c,e = .returned (.pointer (some ⟨c,0,none⟩))∧w.heap.size≤c∧bM w' c A n aq∧Below w.heap.size w w':=by
 go_enter Tryz.func33,Tryz.ntmps33;go_wp2_with fail
 go_loopw [3,4] (fun x i wr=>∃(q:Int) (k:Nat),x = .int .i64 q∧i = .int .i64 k∧(0≤q∧q≤1073741823)∧k≤n∧(k:Int)≤4000∧Below w.heap.size w wr) (fun _ i _=>n - (intOf i).toNat)
 case atStart=>exact ⟨94701+n,0,Vu,rfl,J,Nat.zero_le _,J,aj _⟩
 case round =>
  obtain ⟨q,k,rfl,rfl,⟨sx,ei⟩,tN,hk4,X⟩:=hrel;by_cases hk:k < n
  ·obtain ⟨g,o,v,rfl,hg,hv,fW,ss⟩:=ce k hk;have hvw:wr.cell? ⟨g,o+k,none⟩ = some (.int .u8 v):=r' X hv hg;have gm:(n:Int)≤aq∨True:=.inr trivial;by_cases hk5:(k:Int) < 4000
   ·have FT:(k:Int) < n:=J;go_wp2;exact ⟨⟨_,k+1,rfl,N',Kg _ 1073741823 (by decide),J,J,X⟩,by simp only [intOf];omega⟩
   ·have FT:(k:Int) < n:=J;exact Dm
  ·have FT:¬(k:Int) < n:=J;exact Dm
theorem mY {w:World} {B e size n:Nat} {v:Value} {xs:List Value} (h:w.ownsRow B e size v n xs):∃A c,v = .slice A n c:=by
 rcases h.2 with ⟨rfl,Z⟩ | ⟨g,aq,dx,rfl,_⟩
 ·subst Z;exact ⟨none,0,rfl⟩
 ·exact ⟨_,_,rfl⟩
theorem EJ {w:World} {B e size n c i:Nat} {v u:Value} {xs:List Value} (h:w.ownsRow B e size v n xs) (hc:∀g,v.ownBlock = some g→g≠c):(w.setCell ⟨c,i,none⟩ u).ownsRow B e size v n xs :=
 h.kept (row:=some c) ⟨rfl,rfl,rfl,by simp [World.setCell],fun k hk b4=>Below.heap_setCell _ _ _ _ (by intro e;apply b4;rw [e])⟩ (by
   by_cases hv:v.ownBlock = some c
   ·exact absurd rfl (hc c hv)
   ·exact .inr hv)
section
variable {α:Type} [bc α]
theorem aY.px {w w':World} {B B5 e size n:Nat} {v v':Value} {xs:List α} {ds us cs:List Value} {F G:List Nat} {x:α} (row:w.ownsRow B e size v n us) (cb:aY w B xs ds F) (b4:∀g,v.ownBlock = some g→g∉F)
 (hx:am w B5 x cs G) (h5:B≤B5) (dT:∀g,v.ownBlock = some g→g < B5) (hF:∀y∈F,y < B5) (hg:w.grownBy w' v.ownBlock) (cY:v'.ownBlock = v.ownBlock∨v'.ownBlock = some (w.heap.size+1)) :
 aY w' B (xs++[x]) (ds++cs) (F++G)∧∀g,v'.ownBlock = some g→g∉F++G:=by
 have h1:=cb.push hx h5 hF;have qh:∀g,v.ownBlock = some g→g∉F++G:=fun g hv hm=>by
  rcases List.mem_append.1 hm with hm | hm
  ·exact b4 g hv hm
  ·have:=hx.base g hm;have:=dT g hv;omega
 refine ⟨h1.bs (fun y hy=>hg.block y (h1.lt y hy) (fun hv=>qh y hv.symm hy)) hg.size,fun g hv hm=>?_⟩;rcases cY with cY | cY
 ·exact qh g (cY.symm.trans hv) hm
 ·have h2:=h1.lt g hm;rw [cY] at hv;injection hv with hv;omega
end
theorem Qb {P:Program} {t e:TypeId} {z:Value} {size bytes:Nat} (hE:DL P t e z size bytes) {o:Oper} {a:Act} {K:Act→World→Prop} {Q:Exit→Act→World→Prop} (s x:Operand)
 (ho:o.op = .call { callee:=.builtin .append,args:=#[s,x],argTypes:=#[t,t] })
 (w:World) (base:Nat) (v:Value) (n:Nat) (xs:List Value) (bk:w.ownsRow base e size v n xs) (hs:a.eval s = v)
 (cs:List Value) (hx:a.eval x = .slice (some ⟨w.heap.size,0,none⟩) 1 1) (hl:cs.length = size) (h1:∀u∈cs,u.oneCell' = true)
 (Z:n≤2097152) (mU:bytes≤4096) (dk:base≤w.heap.size)
 (h:∀v' w',w'.ownsRow base e size v' (n+1) (xs++cs)→w.grownBy w' v.ownBlock→w.heap.size+1≤w'.heap.size→(v'.ownBlock = v.ownBlock∨v'.ownBlock = some (w.heap.size+1))→K (a.put o.dst v') w'):o.wp P a (w.alloc (.cells cs.toArray e)) K Q:=by
 obtain ⟨ht,hi0,lB,gT⟩:=hE;obtain ⟨i,hi,hz,hsize,X⟩:=info_parts hi0;have i7:(n+1) * bytes≤2097153 * 4096:=Nat.mul_le_mul J mU;have i8:∀j u,cs[j]? = some u→(w.alloc (.cells cs.toArray e)).cell? ((⟨w.heap.size,0,none⟩:Addr).add j) = some u:=by exact xw
 obtain ⟨v',w',hr,h2,h3,h4,h5⟩:=run_append_own_at (P:=P) (w.alloc (.cells cs.toArray e)) base t o.type e i z size bytes ht hi hz hsize X lB gT v n xs (bk.alloc _) ⟨w.heap.size,0,none⟩ 1 1 cs J i8 h1 kD J (by simp;omega);unfold Oper.wp execOp;simp only [ho,resolve,invoke,builtin,Sem.run_bind,Sem.run_pure,Result.andThen_ok,List.map_toArray,List.map_cons,List.map_nil,hs,hx,hr];refine h v' w' h2 ⟨h3.os,h3.tape,h3.output,Nat.le_trans S' h3.size,fun k hk b4=>?_⟩ (by have:=h3.size;simpa using this) (by simpa using h5);rw [h3.block k (by simp;omega) b4];exact Below.heap_alloc _ _ _ hk
theorem rW {α:Type} [bc α] {P:Program} {t e:TypeId} {z:Value} {size bytes:Nat} (hE:DL P t e z size bytes) (hd:bc.size α = size) {ops:Array Oper} {rest:List Oper} {o:Oper} {a:Act} {Q:Exit→Act→World→Prop} (sl:o.guard = none) (s x:Operand)
 (ho:o.op = .call { callee:=.builtin .append,args:=#[s,x],argTypes:=#[t,t] })
 (w:World) (base:Nat) (v:Value) (n:Nat) (xs:List Value) (bk:w.ownsRow base e size v n xs) (hs:a.eval s = v)
 (ys:List α) (A:Option Addr) (c:Nat) (F:List Nat) (l5:Sl w ys A c F) (hx:a.eval x = .slice A ys.length c)
 (Z:n+ys.length≤2097152) (mU:bytes≤4096) (dk:base≤w.heap.size)
 (h:∀v' w' ds G,jo w ys ds G→(∀b∈G,b∈F)→w'.ownsRow base e size v' (n+ys.length) (xs++ds)→w.grownBy w' v.ownBlock→(v'.ownBlock = v.ownBlock∨v'.ownBlock = some w.heap.size)→wpList P ops Q rest (a.put o.dst v') w'):wpList P ops Q (o :: rest) a w:=by
 subst hd;obtain ⟨ht,hi0,lB,gT⟩:=hE;obtain ⟨i,hi,hz,hsize,X⟩:=info_parts hi0;have i7:(n+ys.length) * bytes≤2097152 * 4096:=Nat.mul_le_mul Z mU;obtain ⟨A',c',G,ds,e0,h1,h2,hc,h0⟩:=l5;simp only [List.cons.injEq,Value.slice.injEq,and_true,true_and] at e0;obtain ⟨rfl,rfl⟩:=e0;have uG:∀(ad:Addr),A = some ad→(∀j u,ds[j]? = some u→w.cell? (ad.add j) = some u)→wpList P ops Q (o :: rest) a w:=by
  intro ad hA bE;subst hA;have hG:∀b∈G,b∈F:=by
   exact DS
  exact wpList_append_own_at w sl s x t ho base e i z (bc.size α) bytes ht hi hz hsize X lB gT v n xs hs bk ad ys.length c ds hx hc.len bE hc.one kD J dk (fun v' w' lZ hg _ cY=>h v' w' ds G hc hG lZ hg cY)
 rcases h0 with ⟨rfl,rfl⟩ | ⟨b,o',hA,rfl,X,bE⟩
 ·obtain ⟨rfl,rfl⟩:=hc;cases A with
  | some ad=>exact uG ad rfl (fun j u hu=>by simp at hu)
  | none =>
    have EV:∀(A2:Option Addr) (aq:Nat),v = .slice A2 n aq→n≤aq→wpList P ops Q (o :: rest) a w:=by intro A2 aq hv gv;refine wpList_plain sl fun K hK=>?_;have hr:=run_append_nothing (P:=P) w t t o.type e i ht hi A2 n aq gv (.slice none 0 c) (Src.ofNil w ht c);unfold Oper.wp execOp;simp only [ho,resolve,invoke,builtin,Sem.run_bind,Sem.run_pure,Result.andThen_ok,List.map_toArray,List.map_cons,List.map_nil,hs,hv,hx,List.length_nil,hr];refine hK _ _ ?_;subst hv;exact h _ w [] [] ⟨rfl,rfl⟩ (fun b X=>X) (by simpa using bk) ⟨rfl,rfl,rfl,Nat.le_refl _,fun _ _ _=>rfl⟩ (.inl rfl)
    rcases bk.2 with ⟨hv,tD⟩ | ⟨g,aq,dx,hv,_,_,gv,_⟩
    ·exact EV none 0 (by rw [hv,tD]) J
    ·exact EV _ aq hv gv
 ·refine uG _ hA fun j u hu=>?_;exact DZ
section
variable {α:Type} [bc α] {w:World}
theorem ws (hf:∀{w:World} {x:α} {cs:List Value} {F:List Nat},rd w x cs F→F = []):∀{xs:List α} {ds:List Value} {F:List Nat},jo w xs ds F→F = []
 | [],_,_,h=>h.2
 | x :: xs,_,_,⟨c1,c2,F1,F2,_,rfl,h1,h2⟩=>by rw [hf h1,ws hf h2];rfl
theorem am.cZ {B:Nat} {e:TypeId} {v:Value} {xs:List α} {ds:List Value} {F:List Nat} (hf:∀{w:World} {x:α} {cs:List Value} {F:List Nat},Go.Proofs.YtajbbmembionpaaGreat.bc.rd w x cs F→F = []) (h0:w.ownsRow B e (bc.size α) v xs.length ds) (h:jo w xs ds F) :
 ∃A c G,v = .slice A xs.length c∧am w B xs [.slice A xs.length c] G:=by
 obtain rfl:=ws hf h;exact am.oJ h0 ⟨h,List.nodup_nil,(fun b X=>by cases X),(fun b X=>by cases X)⟩ (fun g _ hm=>by cases hm)
end
theorem ey.oJ {w:World} {B e size n:Nat} {v:Value} {ds:List Value} (h:w.ownsRow B e size v n ds):(v = .slice none 0 0∧n = 0)∨∃g aq N,v = .slice (some ⟨g,0,none⟩) n aq∧B≤g∧ey w g e N ds∧n≤aq∧aq≤maxLen:=by
 rcases h with ⟨hl,h | ⟨g,aq,dx,rfl,X,hh,gv,hm,cb,ht⟩⟩
 ·exact .inl h
 ·refine .inr ⟨g,aq,dx.size,rfl,X,⟨dx,hh,rfl,?_,fun j u hu=>?_⟩,gv,hm⟩
  ·rw [hl,cb];exact Nat.mul_le_mul_right _ gv
  ·exact xl
theorem ey.set {w:World} {g:Nat} {t:TypeId} {N:Nat} {ds:List Value} (h:ey w g t N ds) {i:Nat} (hi:i < ds.length) (u:Value):ey (w.setCell ⟨g,i,none⟩ u) g t N (ds.set i u):=by
 obtain ⟨cs,h,rfl,hl,hc⟩:=h;refine ⟨cs.setIfInBounds i u,?_,S',by simpa using hl,fun j v hv=>?_⟩
 ·simp [World.setCell,Array.getElem?_modify,h]
 ·by_cases hj:i = j
  ·subst hj;rw [List.getElem?_set_self hi] at hv;cases hv
   rw [Array.getElem?_setIfInBounds_self_of_lt J]
  ·rw [List.getElem?_set_ne hj] at hv;rw [Array.getElem?_setIfInBounds_ne hj];exact hc j v hv
theorem ey.lm {w:World} {g:Nat} {t:TypeId} {N:Nat} {ds:List Value} (h:ey w g t N ds) {j:Nat} {u:Value} (hj:ds[j]? = some u):w.cell? ⟨g,j,none⟩ = some u:=by have:=h.cells j u hj;simpa using this
end Go.Proofs.YtajbbmembionpaaGreat
