/- The cursor of a draw: one byte, a number below a bound, one of some. No condition. -/
import Derived.Test.YtjahcnjmjahbaaaGreatNeedOk
import Derived.Deep.Upon
namespace Go.Proofs.YtjahcnjmjahbaaaGreat
open Go.ChangeShapes Go.WideShapes Go.ChangeAt Go.RowKit
set_option linter.unusedVariables false
set_option linter.unusedSimpArgs false
set_option maxHeartbeats 2000000
set_option maxRecDepth 100000
theorem P4 (a:Int) (m:Nat) (hm:m < 9223372036854775808):0≤bits .and .i64 a (m:Int)∧bits .and .i64 a (m:Int)≤m:=by
 have h2:(BitVec.ofInt 64 (m:Int)).toNat = m:=by rw [BitVec.ofInt_natCast,BitVec.toNat_ofNat];exact Nat.mod_eq_of_lt O
 have h3:(BitVec.ofInt 64 a &&& BitVec.ofInt 64 (m:Int)).toNat≤m:=by rw [BitVec.toNat_and,h2];exact Nat.and_le_right
 have e:bits .and .i64 a (m:Int) = IntKind.i64.wrap ((BitVec.ofInt 64 a &&& BitVec.ofInt 64 (m:Int)).toNat:Int):=rfl;rw [e,IntKind.wrap_i64];omega
theorem aC6 (a:Int):bv (wrap64 a):=by unfold wrap64 bv;omega
theorem MS (w:World) (c:Nat) (A:Option Addr) (n aM:Nat) (h:cB w c A n aM) :
 Calls Tryz.prog 85 #[.pointer (some ⟨c,0,none⟩)] w fun e w'=>∃r:Int,e = .returned (.int .i64 r)∧(0≤r∧r≤255)∧cB w' c A n aM∧nN [c] w w':=by
 obtain ⟨i0,x0,hi,hx,c0,c1,c2,Mo⟩:=h.cells;have ap:=h.lt;have cG:=Mo 2;have H:=I h;clear h Mo hi hx;go_enter Tryz.func85,Tryz.ntmps85;go_wp2;have hu:nN [c] w (w.setCell ⟨c,2,none⟩ (.int .i64 (wrap64 (wrap64 (x0 * 6364136223846793005)+1442695040888963407)))):=(nN.refl _ _).setCell S' _;have H1:=H.out.number (x:=wrap64 (wrap64 (x0 * 6364136223846793005)+1442695040888963407)) (aC6 _);generalize w.setCell ⟨c,2,none⟩ (.int .i64 (wrap64 (wrap64 (x0 * 6364136223846793005)+1442695040888963407))) = w1 at *;clear c0 c1 c2 cG;obtain ⟨i,x,hi,hx,c0,c1,c2,Mo⟩:=H1.cells;have hs:=H1.small;have eB:=Mo 1;have fh:=H1.lt;by_cases hk:i < n
 ·obtain ⟨k,rfl⟩:∃k:Nat,i = k:=⟨i.toNat,O⟩;obtain ⟨g,o,v,rfl,hg,hv,gb,hv1⟩:=H1.byte (k:=k) O;replace H1:=I H1;go_region
  obtain ⟨y,hy,hy0,mT⟩:∃y,bits BinOp.and IntKind.i64 (bits BinOp.xor IntKind.i64 (x / 8589934592) (x / 35184372088832)) 255 = y∧0≤y∧y≤255:=⟨_,rfl,P4 _ 255 (by decide)⟩;simp only [hy];clear hy;go_wp2;go_region
  go_wp2;go_region
  go_wp2;go_ret
  exact ⟨_,rfl,P4 _ 255 (by decide),(H1.out.MR O).drew.drew.drew,((hu.setCell S' _).drew.drew.drew)⟩
 ·replace H1:=I H1;go_region
  obtain ⟨y,hy,hy0,mT⟩:∃y,bits BinOp.and IntKind.i64 (bits BinOp.xor IntKind.i64 (x / 8589934592) (x / 35184372088832)) 255 = y∧0≤y∧y≤255:=⟨_,rfl,P4 _ 255 (by decide)⟩;simp only [hy];clear hy;go_wp2;go_region
  go_wp2;go_ret
  exact ⟨_,rfl,⟨hy0,mT⟩,H1.out.drew.drew,hu.drew.drew⟩
theorem l' (m:Nat) (hm:0 < m∧(m:Int)≤1000000000) (w:World) (c:Nat) (A:Option Addr) (n aM:Nat) (h:cB w c A n aM) :
 Calls Tryz.prog 65 #[.pointer (some ⟨c,0,none⟩),.int .i64 m] w fun e w'=>∃r:Nat,e = .returned (.int .i64 r)∧r < m∧cB w' c A n aM∧nN [c] w w':=by
 obtain ⟨hm0,oL⟩:=hm;have ap:=h.lt;have HC:=I h;clear h;by_cases hs:(m:Int)≤256
 ·go_enter Tryz.func65,Tryz.ntmps65;go_wp2_with fail
  refine (MS _ c A n aM HC.out).mono ?_;rintro e w1 ⟨r,rfl,⟨cZ,dc⟩,H1,hu⟩;obtain ⟨k,rfl⟩:∃k:Nat,r = k:=⟨r.toNat,O⟩;replace H1:=I H1;go_wp2;go_ret
  exact ⟨k % m,S',Nat.mod_lt _ hm0,H1.out,hu⟩
 ·go_enter Tryz.func65,Tryz.ntmps65;go_wp2_with fail
  refine (MS _ c A n aM HC.out).mono ?_;rintro e w1 ⟨r1,rfl,⟨cZ,dc⟩,H1,hu1⟩;replace H1:=I H1;go_wp2_with fail
  refine (MS _ c A n aM H1.out).mono ?_;rintro e w2 ⟨r2,rfl,⟨ui,eS⟩,H2,dC⟩;replace H2:=I H2;go_wp2_with fail
  refine (MS _ c A n aM H2.out).mono ?_;rintro e w3 ⟨r3,rfl,⟨gd,cW⟩,H3,cY⟩;replace H3:=I H3;go_wp2_with fail
  refine (MS _ c A n aM H3.out).mono ?_;rintro e w4 ⟨r4,rfl,⟨ht0,ht1⟩,H4,Td⟩;replace H4:=I H4;go_wp2;go_ret
  obtain ⟨q,hq⟩:∃q:Nat,r1 * 16777216+r2 * 65536+r3 * 256+r4 = q:=⟨(r1 * 16777216+r2 * 65536+r3 * 256+r4).toNat,O⟩;exact ⟨q % m,(by simp [hq]),Nat.mod_lt _ hm0,H4.out,(hu1.trans dC).trans (cY.trans Td)⟩
theorem CL (m:Nat) (hm:0 < m∧(m:Int)≤1000000000) (w:World) (c:Nat) (A:Option Addr) (n aM:Nat) (h:cB w c A n aM) :
 Calls Tryz.prog 44 #[.pointer (some ⟨c,0,none⟩),.int .i64 m] w fun e w'=>∃r:Bool,e = .returned (.bool r)∧cB w' c A n aM∧nN [c] w w':=by
 have HC:=I h;clear h;have HM:=I hm;clear hm;go_enter Tryz.func44,Tryz.ntmps44;go_wp2_with fail
 refine (l' m HM.out _ c A n aM HC.out).mono ?_;rintro e w1 ⟨k,rfl,hk,H1,hu⟩;replace H1:=I H1;go_wp2;go_ret
 exact ⟨_,rfl,H1.out,hu⟩
theorem Tr (S:ByteArray→Prop) (g m mc:Nat) (hm:0 < m∧(m:Int)≤1000000000) (w:World) (c:Nat) (A:Option Addr) (n aM:Nat) (h:cB w c A n aM) (hg:g≠c) (kF:g < w.heap.size) (hS:∀k,k < m→∃s,w.cell? ⟨g,k,none⟩ = some (.string s)∧S s) :
 Calls Tryz.prog 163 #[.pointer (some ⟨c,0,none⟩),.slice (some ⟨g,0,none⟩) m mc] w fun e w'=>∃s,e = .returned (.string s)∧S s∧cB w' c A n aM∧nN [c] w w':=by
 have HC:=I h;clear h;have HM:=I hm;clear hm;go_enter Tryz.func163,Tryz.ntmps163;go_wp2_with fail
 refine (l' m HM.out _ c A n aM HC.out).mono ?_;rintro e w1 ⟨k,rfl,hk,H1,hu⟩;replace H1:=I H1;obtain ⟨s,hs,cK⟩:=hS k hk;have se:(k:Int) < m:=by omega
 have cW:w1.cell? ⟨g,k,none⟩ = some (.string s):=by rw [← hs];exact World.cell?_of_block (hu.block g kF (by simpa using hg))
 go_wp2;go_ret
 exact ⟨_,rfl,cK,H1.out,hu⟩
theorem Ts (S:Int→Prop) (g m mc:Nat) (hm:0 < m∧(m:Int)≤1000000000) (w:World) (c:Nat) (A:Option Addr) (n aM:Nat) (h:cB w c A n aM) (hg:g≠c) (kF:g < w.heap.size) (hS:∀k,k < m→∃s,w.cell? ⟨g,k,none⟩ = some (.int .i64 s)∧S s) :
 Calls Tryz.prog 114 #[.pointer (some ⟨c,0,none⟩),.slice (some ⟨g,0,none⟩) m mc] w fun e w'=>∃s,e = .returned (.int .i64 s)∧S s∧cB w' c A n aM∧nN [c] w w':=by
 have HC:=I h;clear h;have HM:=I hm;clear hm;go_enter Tryz.func114,Tryz.ntmps114;go_wp2_with fail
 refine (l' m HM.out _ c A n aM HC.out).mono ?_;rintro e w1 ⟨k,rfl,hk,H1,hu⟩;replace H1:=I H1;obtain ⟨s,hs,cK⟩:=hS k hk;have se:(k:Int) < m:=by omega
 have cW:w1.cell? ⟨g,k,none⟩ = some (.int .i64 s):=by rw [← hs];exact World.cell?_of_block (hu.block g kF (by simpa using hg))
 go_wp2;go_ret
 exact ⟨_,rfl,cK,H1.out,hu⟩
theorem aBW (w:World) (A:Option Addr) (n aM:Nat) (hn:(n:Int)≤1048576) (de:∀k,k < n→∃(g o:Nat) (v:Int),A = some ⟨g,o,none⟩∧g < w.heap.size∧w.cell? ⟨g,o+k,none⟩ = some (.int .u8 v)∧0≤v∧v≤255) :
 Calls Tryz.prog 27 #[.slice A n aM] w fun e w'=>∃c,e = .returned (.pointer (some ⟨c,0,none⟩))∧w.heap.size≤c∧cB w' c A n aM∧Below w.heap.size w w':=by
 go_enter Tryz.func27,Tryz.ntmps27;go_wp2_with fail
 go_loopw [3,4] (fun x i wr=>∃(q:Int) (k:Nat),x = .int .i64 q∧i = .int .i64 k∧(0≤q∧q≤1073741823)∧k≤n∧(k:Int)≤4000∧Below w.heap.size w wr) (fun _ i _=>n - (intOf i).toNat)
 case atStart=>exact ⟨94701+n,0,au0,rfl,O,Nat.zero_le _,O,aj _⟩
 case round =>
  obtain ⟨q,k,rfl,rfl,⟨ui,eS⟩,hkn,hk4,hb⟩:=hrel;by_cases hk:k < n
  ·obtain ⟨g,o,v,rfl,hg,hv,gb,hv1⟩:=de k hk;have hvw:wr.cell? ⟨g,o+k,none⟩ = some (.int .u8 v):=r' hb hv hg;have ev:(n:Int)≤aM∨True:=.inr trivial;by_cases hk5:(k:Int) < 4000
   ·have MT:(k:Int) < n:=O;go_wp2;exact ⟨⟨_,k+1,rfl,N',P4 _ 1073741823 (by decide),O,O,hb⟩,by simp only [intOf];omega⟩
   ·have MT:(k:Int) < n:=O;exact Je
  ·have MT:¬(k:Int) < n:=O;exact Je
theorem mY {w:World} {B e size n:Nat} {v:Value} {xs:List Value} (h:w.ownsRow B e size v n xs):∃A c,v = .slice A n c:=by
 exact Lb
theorem EJ {w:World} {B e size n c i:Nat} {v u:Value} {xs:List Value} (h:w.ownsRow B e size v n xs) (hc:∀g,v.ownBlock = some g→g≠c):(w.setCell ⟨c,i,none⟩ u).ownsRow B e size v n xs :=
 h.kept (row:=some c) ⟨rfl,rfl,rfl,by simp [World.setCell],fun k hk cA=>Below.heap_setCell _ _ _ _ (by intro e;apply cA;rw [e])⟩ (by
   by_cases hv:v.ownBlock = some c
   ·exact absurd rfl (hc c hv)
   ·exact .inr hv)
section
variable {α:Type} [bk α]
theorem aY.O0 {w w':World} {B B5 e size n:Nat} {v v':Value} {xs:List α} {ds us cs:List Value} {F G:List Nat} {x:α} (row:w.ownsRow B e size v n us) (fo:aY w B xs ds F) (cA:∀g,v.ownBlock = some g→g∉F)
 (hx:am w B5 x cs G) (h5:B≤B5) (gM:∀g,v.ownBlock = some g→g < B5) (hF:∀y∈F,y < B5) (hg:w.grownBy w' v.ownBlock) (cL:v'.ownBlock = v.ownBlock∨v'.ownBlock = some (w.heap.size+1)) :
 aY w' B (xs++[x]) (ds++cs) (F++G)∧∀g,v'.ownBlock = some g→g∉F++G:=by
 have h1:=fo.push hx h5 hF;have sf:∀g,v.ownBlock = some g→g∉F++G:=fun g hv hm=>by
  rcases List.mem_append.1 hm with hm | hm
  ·exact cA g hv hm
  ·have:=hx.base g hm;have:=gM g hv;omega
 refine ⟨h1.bJ (fun y hy=>hg.block y (h1.lt y hy) (fun hv=>sf y hv.symm hy)) hg.size,fun g hv hm=>?_⟩;rcases cL with cL | cL
 ·exact sf g (cL.symm.trans hv) hm
 ·have h2:=h1.lt g hm;rw [cL] at hv;injection hv with hv;omega
end
theorem Qb {P:Program} {t e:TypeId} {z:Value} {size bytes:Nat} (hE:DL P t e z size bytes) {o:Oper} {a:Act} {K:Act→World→Prop} {Q:Exit→Act→World→Prop} (s x:Operand)
 (ho:o.op = .call { callee:=.builtin .append,args:=#[s,x],argTypes:=#[t,t] })
 (w:World) (base:Nat) (v:Value) (n:Nat) (xs:List Value) (aR:w.ownsRow base e size v n xs) (hs:a.eval s = v)
 (cs:List Value) (hx:a.eval x = .slice (some ⟨w.heap.size,0,none⟩) 1 1) (hl:cs.length = size) (h1:∀u∈cs,u.oneCell' = true)
 (hn:n≤2097152) (pn:bytes≤4096) (dh:base≤w.heap.size)
 (h:∀v' w',w'.ownsRow base e size v' (n+1) (xs++cs)→w.grownBy w' v.ownBlock→w.heap.size+1≤w'.heap.size→(v'.ownBlock = v.ownBlock∨v'.ownBlock = some (w.heap.size+1))→K (a.put o.dst v') w'):o.wp P a (w.alloc (.cells cs.toArray e)) K Q:=by
 obtain ⟨ht,hi0,mS,gv⟩:=hE;obtain ⟨i,hi,hz,hsize,hb⟩:=info_parts hi0;have fR:(n+1) * bytes≤2097153 * 4096:=Nat.mul_le_mul O pn;have jS:∀j u,cs[j]? = some u→(w.alloc (.cells cs.toArray e)).cell? ((⟨w.heap.size,0,none⟩:Addr).add j) = some u:=by exact Be
 obtain ⟨v',w',hr,h2,h3,h4,h5⟩:=run_append_own_at (P:=P) (w.alloc (.cells cs.toArray e)) base t o.type e i z size bytes ht hi hz hsize hb mS gv v n xs (aR.alloc _) ⟨w.heap.size,0,none⟩ 1 1 cs O jS h1 mK O (by simp;omega);unfold Oper.wp execOp;simp only [ho,resolve,invoke,builtin,Sem.run_bind,Sem.run_pure,Result.andThen_ok,List.map_toArray,List.map_cons,List.map_nil,hs,hx,hr];refine h v' w' h2 ⟨h3.os,h3.tape,h3.output,Nat.le_trans S' h3.size,fun k hk cA=>?_⟩ (by have:=h3.size;simpa using this) (by simpa using h5);rw [h3.block k (by simp;omega) cA];exact Below.heap_alloc _ _ _ hk
theorem rW {α:Type} [bk α] {P:Program} {t e:TypeId} {z:Value} {size bytes:Nat} (hE:DL P t e z size bytes) (hd:bk.size α = size) {ops:Array Oper} {rest:List Oper} {o:Oper} {a:Act} {Q:Exit→Act→World→Prop} (tW:o.guard = none) (s x:Operand)
 (ho:o.op = .call { callee:=.builtin .append,args:=#[s,x],argTypes:=#[t,t] })
 (w:World) (base:Nat) (v:Value) (n:Nat) (xs:List Value) (aR:w.ownsRow base e size v n xs) (hs:a.eval s = v)
 (ys:List α) (A:Option Addr) (c:Nat) (F:List Nat) (ia:Sl w ys A c F) (hx:a.eval x = .slice A ys.length c)
 (hn:n+ys.length≤2097152) (pn:bytes≤4096) (dh:base≤w.heap.size)
 (h:∀v' w' ds G,jo w ys ds G→(∀b∈G,b∈F)→w'.ownsRow base e size v' (n+ys.length) (xs++ds)→w.grownBy w' v.ownBlock→(v'.ownBlock = v.ownBlock∨v'.ownBlock = some w.heap.size)→wpList P ops Q rest (a.put o.dst v') w'):wpList P ops Q (o :: rest) a w:=by
 subst hd;obtain ⟨ht,hi0,mS,gv⟩:=hE;obtain ⟨i,hi,hz,hsize,hb⟩:=info_parts hi0;have fR:(n+ys.length) * bytes≤2097152 * 4096:=Nat.mul_le_mul hn pn;obtain ⟨A',c',G,ds,e0,h1,h2,hc,h0⟩:=ia;simp only [List.cons.injEq,Value.slice.injEq,and_true,true_and] at e0;obtain ⟨rfl,rfl⟩:=e0;have xZ:∀(ad:Addr),A = some ad→(∀j u,ds[j]? = some u→w.cell? (ad.add j) = some u)→wpList P ops Q (o :: rest) a w:=by
  intro ad hA cq;subst hA;have hG:∀b∈G,b∈F:=by
   rcases h0 with ⟨rfl,rfl⟩ | ⟨b,o',_,rfl,_⟩
   ·rw [hc.2];intro b hb;cases hb
   ·intro x hx;exact List.mem_cons_of_mem _ hx
  exact wpList_append_own_at w tW s x t ho base e i z (bk.size α) bytes ht hi hz hsize hb mS gv v n xs hs aR ad ys.length c ds hx hc.len cq hc.one mK O dh (fun v' w' mw hg _ cL=>h v' w' ds G hc hG mw hg cL)
 rcases h0 with ⟨rfl,rfl⟩ | ⟨b,o',hA,rfl,hb,cq⟩
 ·obtain ⟨rfl,rfl⟩:=hc;cases A with
  | some ad=>exact xZ ad rfl (fun j u hu=>by simp at hu)
  | none =>
    have Mh:∀(A2:Option Addr) (aM:Nat),v = .slice A2 n aM→n≤aM→wpList P ops Q (o :: rest) a w:=by intro A2 aM hv er;refine wpList_plain tW fun K hK=>?_;have hr:=run_append_nothing (P:=P) w t t o.type e i ht hi A2 n aM er (.slice none 0 c) (Src.ofNil w ht c);unfold Oper.wp execOp;simp only [ho,resolve,invoke,builtin,Sem.run_bind,Sem.run_pure,Result.andThen_ok,List.map_toArray,List.map_cons,List.map_nil,hs,hv,hx,List.length_nil,hr];refine hK _ _ ?_;subst hv;exact h _ w [] [] ⟨rfl,rfl⟩ (fun b hb=>hb) (by simpa using aR) ⟨rfl,rfl,rfl,Nat.le_refl _,fun _ _ _=>rfl⟩ (.inl rfl)
    rcases aR.2 with ⟨hv,hn0⟩ | ⟨g,aM,ep,hv,_,_,er,_⟩
    ·exact Mh none 0 (by rw [hv,hn0]) O
    ·exact Mh _ aM hv er
 ·refine xZ _ hA fun j u hu=>?_;rw [show (⟨b,o',none⟩:Addr).add j = ⟨b,o'+j,none⟩ from by unfold Addr.add;split <;> simp_all];exact cq j u hu
section
variable {α:Type} [bk α] {w:World}
theorem Mi (hf:∀{w:World} {x:α} {cs:List Value} {F:List Nat},rd w x cs F→F = []):∀{xs:List α} {ds:List Value} {F:List Nat},jo w xs ds F→F = []
 | [],_,_,h=>h.2
 | x :: xs,_,_,⟨c1,c2,F1,F2,_,rfl,h1,h2⟩=>by rw [hf h1,Mi hf h2];rfl
theorem am.cO {B:Nat} {e:TypeId} {v:Value} {xs:List α} {ds:List Value} {F:List Nat} (hf:∀{w:World} {x:α} {cs:List Value} {F:List Nat},Go.Proofs.YtjahcnjmjahbaaaGreat.bk.rd w x cs F→F = []) (h0:w.ownsRow B e (bk.size α) v xs.length ds) (h:jo w xs ds F) :
 ∃A c G,v = .slice A xs.length c∧am w B xs [.slice A xs.length c] G:=by
 obtain rfl:=Mi hf h;exact am.oJ h0 ⟨h,List.nodup_nil,(fun b hb=>by cases hb),(fun b hb=>by cases hb)⟩ (fun g _ hm=>by cases hm)
end
theorem eo.oJ {w:World} {B e size n:Nat} {v:Value} {ds:List Value} (h:w.ownsRow B e size v n ds):(v = .slice none 0 0∧n = 0)∨∃g aM N,v = .slice (some ⟨g,0,none⟩) n aM∧B≤g∧eo w g e N ds∧n≤aM∧aM≤maxLen:=by
 rcases h with ⟨hl,h | ⟨g,aM,ep,rfl,hb,hh,er,hm,fo,ht⟩⟩
 ·exact .inl h
 ·refine .inr ⟨g,aM,ep.size,rfl,hb,⟨ep,hh,rfl,?_,fun j u hu=>?_⟩,er,hm⟩
  ·rw [hl,fo];exact Nat.mul_le_mul_right _ er
  ·exact AK
theorem eo.set {w:World} {g:Nat} {t:TypeId} {N:Nat} {ds:List Value} (h:eo w g t N ds) {i:Nat} (hi:i < ds.length) (u:Value):eo (w.setCell ⟨g,i,none⟩ u) g t N (ds.set i u):=by
 obtain ⟨cs,h,rfl,hl,hc⟩:=h;refine ⟨cs.setIfInBounds i u,?_,S',by simpa using hl,fun j v hv=>?_⟩
 ·simp [World.setCell,Array.getElem?_modify,h]
 ·by_cases hj:i = j
  ·subst hj;rw [List.getElem?_set_self hi] at hv;cases hv
   rw [Array.getElem?_setIfInBounds_self_of_lt O]
  ·rw [List.getElem?_set_ne hj] at hv;rw [Array.getElem?_setIfInBounds_ne hj];exact hc j v hv
theorem eo.jC {w:World} {g:Nat} {t:TypeId} {N:Nat} {ds:List Value} (h:eo w g t N ds) {j:Nat} {u:Value} (hj:ds[j]? = some u):w.cell? ⟨g,j,none⟩ = some u:=by have:=h.cells j u hj;simpa using this
theorem anQ:(Tryz.prog.info? 57).map (fun i=>(i.zero,i.size,i.bytes)) = some (some ((.agg #[.string ⟨#[]⟩,.string ⟨#[]⟩])),2,32):=by kernel_rfl
theorem SL:DL Tryz.prog 35 57 ((.agg #[.string ⟨#[]⟩,.string ⟨#[]⟩])) 2 32:=⟨Tryz.underlying35,anQ,rfl,O⟩
theorem aei (xs:List aD) (A:Option Addr) (c:Nat) (F:List Nat) (w:World) (h:Sl w xs A c F) (hl:(xs.length:Int)≤1048576) :
 Calls Tryz.prog 144 #[.slice A xs.length c] w fun e w'=>∃A' c' ds G,e = .returned (.slice A' xs.length c')∧w'.ownsRow w.heap.size 57 2 (.slice A' xs.length c') xs.length ds∧jo w' xs ds G∧(∀b∈G,b∈F)∧Below w.heap.size w w':=by
 cases A with
 | none =>
   obtain rfl:xs = []:=by exact rC
   have vK:∀(w:World) (a:Option Addr) (n c n' c':Nat),(binOp .eql 35 (.slice a n c) (.slice none n' c')).run Tryz.prog w = .ok (.bool a.isNone) w:=fun w a n c n' c'=>Lib.run_eql_slice_nil w _ _ a n c n' c' Tryz.underlying35;go_enter Tryz.func144,Tryz.ntmps144;exact rI
 | some ad =>
   have H:=I h;clear h;have vK:∀(w:World) (a:Option Addr) (n c n' c':Nat),(binOp .eql 35 (.slice a n c) (.slice none n' c')).run Tryz.prog w = .ok (.bool a.isNone) w:=fun w a n c n' c'=>Lib.run_eql_slice_nil w _ _ a n c n' c' Tryz.underlying35;go_enter Tryz.func144,Tryz.ntmps144
   go_wp2_with (
    at_builtin
    go_must (refine rW SL Z Z _ _ Z _ w.heap.size _ 0 [] (World.ownsRow_made (size:=2) w #[] 0 (Nat.le_refl _) (Nat.zero_le _) S') Z xs (some ad) c F (H.out.ext (ak (aj _) _)) Z O O S' ?_)
    intro v2 w2 ds G cJ br aR hg cL;go_must (obtain ⟨A2,c2,eN⟩:=mY aR)
    go_must (subst eN))
   simp only [Nat.zero_add,List.nil_append] at aR;go_ret
   refine ⟨A2,c2,ds,G,S',aR,cJ.frame (fun b hb=>hg.block b (cJ.lt b hb) (fun e=>?_)) hg.size,br,lS (World.ownsRow_made (e:=57) (size:=2) w #[] 0 (Nat.le_refl _) (Nat.zero_le _) S') hg (ak (aj _) _) S'⟩;exact rR
theorem SM {w:World} {x:aD} {cs:List Value} {F:List Nat} (h:rd w x cs F):F = []:=by obtain ⟨_,hF,_⟩:=vO h;exact hF
theorem Xo (xs:List aD) (A:Option Addr) (c:Nat) (F:List Nat) (w:World) (h:Sl w xs A c F) (hl:(xs.length:Int)≤1048576) :
 Calls Tryz.prog 144 #[.slice A xs.length c] w fun e w'=>∃A' c' F',e = .returned (.slice A' xs.length c')∧am w' w.heap.size xs [.slice A' xs.length c'] F'∧Below w.heap.size w w':=by
 refine (aei xs A c F w h hl).mono ?_;rintro e w' ⟨A',c',ds,G,rfl,aR,cJ,_,hb⟩;obtain ⟨A2,c2,G2,hv,hO⟩:=am.cO SM aR cJ;simp only [Value.slice.injEq,true_and] at hv;obtain ⟨rfl,rfl⟩:=hv;exact ⟨A',c',G2,rfl,hO,hb⟩
theorem anR:(Tryz.prog.info? 84).map (fun i=>(i.zero,i.size,i.bytes)) = some (some ((.agg #[.string ⟨#[]⟩,.string ⟨#[]⟩,.int .i64 0])),3,40):=by kernel_rfl
theorem ZS:DL Tryz.prog 36 84 ((.agg #[.string ⟨#[]⟩,.string ⟨#[]⟩,.int .i64 0])) 3 40:=⟨Tryz.underlying36,anR,rfl,O⟩
theorem aej (xs:List iU) (A:Option Addr) (c:Nat) (F:List Nat) (w:World) (h:Sl w xs A c F) (hl:(xs.length:Int)≤1048576) :
 Calls Tryz.prog 145 #[.slice A xs.length c] w fun e w'=>∃A' c' ds G,e = .returned (.slice A' xs.length c')∧w'.ownsRow w.heap.size 84 3 (.slice A' xs.length c') xs.length ds∧jo w' xs ds G∧(∀b∈G,b∈F)∧Below w.heap.size w w':=by
 cases A with
 | none =>
   obtain rfl:xs = []:=by exact rC
   have vK:∀(w:World) (a:Option Addr) (n c n' c':Nat),(binOp .eql 36 (.slice a n c) (.slice none n' c')).run Tryz.prog w = .ok (.bool a.isNone) w:=fun w a n c n' c'=>Lib.run_eql_slice_nil w _ _ a n c n' c' Tryz.underlying36;go_enter Tryz.func145,Tryz.ntmps145;exact rI
 | some ad =>
   have H:=I h;clear h;have vK:∀(w:World) (a:Option Addr) (n c n' c':Nat),(binOp .eql 36 (.slice a n c) (.slice none n' c')).run Tryz.prog w = .ok (.bool a.isNone) w:=fun w a n c n' c'=>Lib.run_eql_slice_nil w _ _ a n c n' c' Tryz.underlying36;go_enter Tryz.func145,Tryz.ntmps145
   go_wp2_with (
    at_builtin
    go_must (refine rW ZS Z Z _ _ Z _ w.heap.size _ 0 [] (World.ownsRow_made (size:=3) w #[] 0 (Nat.le_refl _) (Nat.zero_le _) S') Z xs (some ad) c F (H.out.ext (ak (aj _) _)) Z O O S' ?_)
    intro v2 w2 ds G cJ br aR hg cL;go_must (obtain ⟨A2,c2,eN⟩:=mY aR)
    go_must (subst eN))
   simp only [Nat.zero_add,List.nil_append] at aR;go_ret
   refine ⟨A2,c2,ds,G,S',aR,cJ.frame (fun b hb=>hg.block b (cJ.lt b hb) (fun e=>?_)) hg.size,br,lS (World.ownsRow_made (e:=84) (size:=3) w #[] 0 (Nat.le_refl _) (Nat.zero_le _) S') hg (ak (aj _) _) S'⟩;exact rR
theorem ZT {w:World} {x:iU} {cs:List Value} {F:List Nat} (h:rd w x cs F):F = []:=by obtain ⟨_,hF,_⟩:=oK h;exact hF
theorem afo (xs:List iU) (A:Option Addr) (c:Nat) (F:List Nat) (w:World) (h:Sl w xs A c F) (hl:(xs.length:Int)≤1048576) :
 Calls Tryz.prog 145 #[.slice A xs.length c] w fun e w'=>∃A' c' F',e = .returned (.slice A' xs.length c')∧am w' w.heap.size xs [.slice A' xs.length c'] F'∧Below w.heap.size w w':=by
 refine (aej xs A c F w h hl).mono ?_;rintro e w' ⟨A',c',ds,G,rfl,aR,cJ,_,hb⟩;obtain ⟨A2,c2,G2,hv,hO⟩:=am.cO ZT aR cJ;simp only [Value.slice.injEq,true_and] at hv;obtain ⟨rfl,rfl⟩:=hv;exact ⟨A',c',G2,rfl,hO,hb⟩
theorem afp:(Tryz.prog.info? 91).map (fun i=>(i.zero,i.size,i.bytes)) = some (some ((.agg #[.string ⟨#[]⟩,.bool false,.string ⟨#[]⟩,.int .i64 0])),4,48):=by kernel_rfl
theorem ZU:DL Tryz.prog 44 91 ((.agg #[.string ⟨#[]⟩,.bool false,.string ⟨#[]⟩,.int .i64 0])) 4 48:=⟨Tryz.underlying44,afp,rfl,O⟩
theorem Y5 (xs:List bH) (A:Option Addr) (c:Nat) (F:List Nat) (w:World) (h:Sl w xs A c F) (hl:(xs.length:Int)≤1048576) :
 Calls Tryz.prog 147 #[.slice A xs.length c] w fun e w'=>∃A' c' ds G,e = .returned (.slice A' xs.length c')∧w'.ownsRow w.heap.size 91 4 (.slice A' xs.length c') xs.length ds∧jo w' xs ds G∧(∀b∈G,b∈F)∧Below w.heap.size w w':=by
 cases A with
 | none =>
   obtain rfl:xs = []:=by exact rC
   have vK:∀(w:World) (a:Option Addr) (n c n' c':Nat),(binOp .eql 44 (.slice a n c) (.slice none n' c')).run Tryz.prog w = .ok (.bool a.isNone) w:=fun w a n c n' c'=>Lib.run_eql_slice_nil w _ _ a n c n' c' Tryz.underlying44;go_enter Tryz.func147,Tryz.ntmps147;exact rI
 | some ad =>
   have H:=I h;clear h;have vK:∀(w:World) (a:Option Addr) (n c n' c':Nat),(binOp .eql 44 (.slice a n c) (.slice none n' c')).run Tryz.prog w = .ok (.bool a.isNone) w:=fun w a n c n' c'=>Lib.run_eql_slice_nil w _ _ a n c n' c' Tryz.underlying44;go_enter Tryz.func147,Tryz.ntmps147
   go_wp2_with (
    at_builtin
    go_must (refine rW ZU Z Z _ _ Z _ w.heap.size _ 0 [] (World.ownsRow_made (size:=4) w #[] 0 (Nat.le_refl _) (Nat.zero_le _) S') Z xs (some ad) c F (H.out.ext (ak (aj _) _)) Z O O S' ?_)
    intro v2 w2 ds G cJ br aR hg cL;go_must (obtain ⟨A2,c2,eN⟩:=mY aR)
    go_must (subst eN))
   simp only [Nat.zero_add,List.nil_append] at aR;go_ret
   refine ⟨A2,c2,ds,G,S',aR,cJ.frame (fun b hb=>hg.block b (cJ.lt b hb) (fun e=>?_)) hg.size,br,lS (World.ownsRow_made (e:=91) (size:=4) w #[] 0 (Nat.le_refl _) (Nat.zero_le _) S') hg (ak (aj _) _) S'⟩;exact rR
theorem Zk {w:World} {x:bH} {cs:List Value} {F:List Nat} (h:rd w x cs F):F = []:=by obtain ⟨_,hF,_⟩:=jv h;exact hF
theorem aap (xs:List bH) (A:Option Addr) (c:Nat) (F:List Nat) (w:World) (h:Sl w xs A c F) (hl:(xs.length:Int)≤1048576) :
 Calls Tryz.prog 147 #[.slice A xs.length c] w fun e w'=>∃A' c' F',e = .returned (.slice A' xs.length c')∧am w' w.heap.size xs [.slice A' xs.length c'] F'∧Below w.heap.size w w':=by
 refine (Y5 xs A c F w h hl).mono ?_;rintro e w' ⟨A',c',ds,G,rfl,aR,cJ,_,hb⟩;obtain ⟨A2,c2,G2,hv,hO⟩:=am.cO Zk aR cJ;simp only [Value.slice.injEq,true_and] at hv;obtain ⟨rfl,rfl⟩:=hv;exact ⟨A',c',G2,rfl,hO,hb⟩
theorem Xj:(Tryz.prog.info? 9).map (fun i=>(i.zero,i.size,i.bytes)) = some (some (.string ⟨#[]⟩),1,16):=by kernel_rfl
theorem Ud:DL Tryz.prog 61 9 (.string ⟨#[]⟩) 1 16:=⟨Tryz.underlying61,Xj,rfl,O⟩
theorem LP (xs:List ByteArray) (A:Option Addr) (c:Nat) (F:List Nat) (w:World) (h:Sl w xs A c F) (hl:(xs.length:Int)≤1048576) :
 Calls Tryz.prog 174 #[.slice A xs.length c] w fun e w'=>∃A' c' ds G,e = .returned (.slice A' xs.length c')∧w'.ownsRow w.heap.size 9 1 (.slice A' xs.length c') xs.length ds∧jo w' xs ds G∧(∀b∈G,b∈F)∧Below w.heap.size w w':=by
 cases A with
 | none =>
   obtain rfl:xs = []:=by exact rC
   have vK:∀(w:World) (a:Option Addr) (n c n' c':Nat),(binOp .eql 61 (.slice a n c) (.slice none n' c')).run Tryz.prog w = .ok (.bool a.isNone) w:=fun w a n c n' c'=>Lib.run_eql_slice_nil w _ _ a n c n' c' Tryz.underlying61;go_enter Tryz.func174,Tryz.ntmps174;exact rI
 | some ad =>
   have H:=I h;clear h;have vK:∀(w:World) (a:Option Addr) (n c n' c':Nat),(binOp .eql 61 (.slice a n c) (.slice none n' c')).run Tryz.prog w = .ok (.bool a.isNone) w:=fun w a n c n' c'=>Lib.run_eql_slice_nil w _ _ a n c n' c' Tryz.underlying61;go_enter Tryz.func174,Tryz.ntmps174
   go_wp2_with (
    at_builtin
    go_must (refine rW Ud Z Z _ _ Z _ w.heap.size _ 0 [] (World.ownsRow_made (size:=1) w #[] 0 (Nat.le_refl _) (Nat.zero_le _) S') Z xs (some ad) c F (H.out.ext (ak (aj _) _)) Z O O S' ?_)
    intro v2 w2 ds G cJ br aR hg cL;go_must (obtain ⟨A2,c2,eN⟩:=mY aR)
    go_must (subst eN))
   simp only [Nat.zero_add,List.nil_append] at aR;go_ret
   refine ⟨A2,c2,ds,G,S',aR,cJ.frame (fun b hb=>hg.block b (cJ.lt b hb) (fun e=>?_)) hg.size,br,lS (World.ownsRow_made (e:=9) (size:=1) w #[] 0 (Nat.le_refl _) (Nat.zero_le _) S') hg (ak (aj _) _) S'⟩;exact rR
theorem P8 {w:World} {x:ByteArray} {cs:List Value} {F:List Nat} (h:rd w x cs F):F = []:=h.2.1
theorem Ox (xs:List ByteArray) (A:Option Addr) (c:Nat) (F:List Nat) (w:World) (h:Sl w xs A c F) (hl:(xs.length:Int)≤1048576) :
 Calls Tryz.prog 174 #[.slice A xs.length c] w fun e w'=>∃A' c' F',e = .returned (.slice A' xs.length c')∧am w' w.heap.size xs [.slice A' xs.length c'] F'∧Below w.heap.size w w':=by
 refine (LP xs A c F w h hl).mono ?_;rintro e w' ⟨A',c',ds,G,rfl,aR,cJ,_,hb⟩;obtain ⟨A2,c2,G2,hv,hO⟩:=am.cO P8 aR cJ;simp only [Value.slice.injEq,true_and] at hv;obtain ⟨rfl,rfl⟩:=hv;exact ⟨A',c',G2,rfl,hO,hb⟩
theorem apQ:(Tryz.prog.info? 89).map (fun i=>(i.zero,i.size,i.bytes)) = some (some ((.agg #[.string ⟨#[]⟩,.int .i64 0,.slice none 0 0])),3,48):=by kernel_rfl
theorem ZV:DL Tryz.prog 43 89 ((.agg #[.string ⟨#[]⟩,.int .i64 0,.slice none 0 0])) 3 48:=⟨Tryz.underlying43,apQ,rfl,O⟩
theorem afq (xs:List bj) (A:Option Addr) (c:Nat) (F:List Nat) (w:World) (h:Sl w xs A c F) (hl:(xs.length:Int)≤1048576) :
 Calls Tryz.prog 173 #[.slice A xs.length c] w fun e w'=>∃A' c' ds G,e = .returned (.slice A' xs.length c')∧w'.ownsRow w.heap.size 89 3 (.slice A' xs.length c') xs.length ds∧jo w' xs ds G∧(∀b∈G,b∈F)∧Below w.heap.size w w':=by
 cases A with
 | none =>
   obtain rfl:xs = []:=by exact rC
   have vK:∀(w:World) (a:Option Addr) (n c n' c':Nat),(binOp .eql 43 (.slice a n c) (.slice none n' c')).run Tryz.prog w = .ok (.bool a.isNone) w:=fun w a n c n' c'=>Lib.run_eql_slice_nil w _ _ a n c n' c' Tryz.underlying43;go_enter Tryz.func173,Tryz.ntmps173;exact rI
 | some ad =>
   have H:=I h;clear h;have vK:∀(w:World) (a:Option Addr) (n c n' c':Nat),(binOp .eql 43 (.slice a n c) (.slice none n' c')).run Tryz.prog w = .ok (.bool a.isNone) w:=fun w a n c n' c'=>Lib.run_eql_slice_nil w _ _ a n c n' c' Tryz.underlying43;go_enter Tryz.func173,Tryz.ntmps173
   go_wp2_with (
    at_builtin
    go_must (refine rW ZV Z Z _ _ Z _ w.heap.size _ 0 [] (World.ownsRow_made (size:=3) w #[] 0 (Nat.le_refl _) (Nat.zero_le _) S') Z xs (some ad) c F (H.out.ext (ak (aj _) _)) Z O O S' ?_)
    intro v2 w2 ds G cJ br aR hg cL;go_must (obtain ⟨A2,c2,eN⟩:=mY aR)
    go_must (subst eN))
   simp only [Nat.zero_add,List.nil_append] at aR;go_ret
   refine ⟨A2,c2,ds,G,S',aR,cJ.frame (fun b hb=>hg.block b (cJ.lt b hb) (fun e=>?_)) hg.size,br,lS (World.ownsRow_made (e:=89) (size:=3) w #[] 0 (Nat.le_refl _) (Nat.zero_le _) S') hg (ak (aj _) _) S'⟩;exact rR
end Go.Proofs.YtjahcnjmjahbaaaGreat
