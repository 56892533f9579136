/- The cursor of a draw: one byte, a number below a bound, one of some. No condition. -/
import Derived.Test.YtajbbmembionpaaGreatDeed
import Derived.Test.YtajbbmembionpaaGreatAppendAt
import Derived.Deep.Upon
import Derived.Test.YtajbbmembionpaaGreatDivP
namespace Go.Proofs.YtajbbmembionpaaGreat
open Go.ChangeShapes Go.WideShapes Go.ChangeAt Go.RowKit
set_option linter.unusedVariables false
set_option linter.unusedSimpArgs false
set_option maxHeartbeats 2000000
set_option maxRecDepth 100000
theorem M2 (a:Int) (m:Nat) (hm:m < 9223372036854775808):0≤bits .and .i64 a (m:Int)∧bits .and .i64 a (m:Int)≤m:=by
 have h2:(BitVec.ofInt 64 (m:Int)).toNat = m:=by rw [BitVec.ofInt_natCast,BitVec.toNat_ofNat];exact Nat.mod_eq_of_lt J
 have h3:(BitVec.ofInt 64 a &&& BitVec.ofInt 64 (m:Int)).toNat≤m:=by rw [BitVec.toNat_and,h2];exact Nat.and_le_right
 have e:bits .and .i64 a (m:Int) = IntKind.i64.wrap ((BitVec.ofInt 64 a &&& BitVec.ofInt 64 (m:Int)).toNat:Int):=rfl;rw [e,IntKind.wrap_i64];omega
theorem aC6 (a:Int):bp (wrap64 a):=by unfold wrap64 bp;omega
theorem JQ (w:World) (c:Nat) (A:Option Addr) (n cap:Nat) (h:bJ w c A n cap) :
 Calls Tryz.prog 94 #[.pointer (some ⟨c,0,none⟩)] w fun e w'=>∃r:Int,e = .returned (.int .i64 r)∧(0≤r∧r≤255)∧bJ w' c A n cap∧nN [c] w w':=by
 obtain ⟨i0,x0,hi,hx,c0,c1,c2,JR⟩:=h.cells;have aq:=h.lt;have cG:=JR 2;have H:=I h;clear h JR hi hx;go_enter Tryz.func94,Tryz.ntmps94;go_wp2;have hu:nN [c] w (w.setCell ⟨c,2,none⟩ (.int .i64 (wrap64 (wrap64 (x0 * 6364136223846793005)+1442695040888963407)))):=(nN.refl _ _).setCell S' _;have H1:=H.out.number (x:=wrap64 (wrap64 (x0 * 6364136223846793005)+1442695040888963407)) (aC6 _);generalize w.setCell ⟨c,2,none⟩ (.int .i64 (wrap64 (wrap64 (x0 * 6364136223846793005)+1442695040888963407))) = w1 at *;clear c0 c1 c2 cG;obtain ⟨i,x,hi,hx,c0,c1,c2,JR⟩:=H1.cells;have hs:=H1.small;have eS:=JR 1;have fT:=H1.lt;by_cases hk:i < n
 ·obtain ⟨k,rfl⟩:∃k:Nat,i = k:=⟨i.toNat,J⟩;obtain ⟨g,o,v,rfl,hg,hv,f9,tI⟩:=H1.byte (k:=k) J;replace H1:=I H1;go_region
  obtain ⟨y,hy,hy0,nu⟩:∃y,bits BinOp.and IntKind.i64 (bits BinOp.xor IntKind.i64 (x / 8589934592) (x / 35184372088832)) 255 = y∧0≤y∧y≤255:=⟨_,rfl,M2 _ 255 (by decide)⟩;simp only [hy];clear hy;go_wp2;go_region
  go_wp2;go_region
  go_wp2;go_ret
  exact ⟨_,rfl,M2 _ 255 (by decide),(H1.out.place J).drew.drew.drew,((hu.setCell S' _).drew.drew.drew)⟩
 ·replace H1:=I H1;go_region
  obtain ⟨y,hy,hy0,nu⟩:∃y,bits BinOp.and IntKind.i64 (bits BinOp.xor IntKind.i64 (x / 8589934592) (x / 35184372088832)) 255 = y∧0≤y∧y≤255:=⟨_,rfl,M2 _ 255 (by decide)⟩;simp only [hy];clear hy;go_wp2;go_region
  go_wp2;go_ret
  exact ⟨_,rfl,⟨hy0,nu⟩,H1.out.drew.drew,hu.drew.drew⟩
theorem ik (m:Nat) (hm:0 < m∧(m:Int)≤1000000000) (w:World) (c:Nat) (A:Option Addr) (n cap:Nat) (h:bJ w c A n cap) :
 Calls Tryz.prog 53 #[.pointer (some ⟨c,0,none⟩),.int .i64 m] w fun e w'=>∃r:Nat,e = .returned (.int .i64 r)∧r < m∧bJ w' c A n cap∧nN [c] w w':=by
 obtain ⟨WO,o5⟩:=hm;have aq:=h.lt;have HC:=I h;clear h;by_cases hs:(m:Int)≤256
 ·go_enter Tryz.func53,Tryz.ntmps53;go_wp2_with fail
  refine (JQ _ c A n cap HC.out).mono ?_;rintro e w1 ⟨r,rfl,⟨d7,dj⟩,H1,hu⟩;obtain ⟨k,rfl⟩:∃k:Nat,r = k:=⟨r.toNat,J⟩;replace H1:=I H1;go_wp2;go_ret
  exact ⟨k % m,S',Nat.mod_lt _ WO,H1.out,hu⟩
 ·go_enter Tryz.func53,Tryz.ntmps53;go_wp2_with fail
  refine (JQ _ c A n cap HC.out).mono ?_;rintro e w1 ⟨r1,rfl,⟨d7,dj⟩,H1,hu1⟩;replace H1:=I H1;go_wp2_with fail
  refine (JQ _ c A n cap H1.out).mono ?_;rintro e w2 ⟨r2,rfl,⟨tN,et⟩,H2,b4⟩;replace H2:=I H2;go_wp2_with fail
  refine (JQ _ c A n cap H2.out).mono ?_;rintro e w3 ⟨r3,rfl,⟨gR,cX⟩,H3,bt⟩;replace H3:=I H3;go_wp2_with fail
  refine (JQ _ c A n cap H3.out).mono ?_;rintro e w4 ⟨r4,rfl,⟨ht0,Qj⟩,H4,Td⟩;replace H4:=I H4;go_wp2;go_ret
  obtain ⟨q,hq⟩:∃q:Nat,r1 * 16777216+r2 * 65536+r3 * 256+r4 = q:=⟨(r1 * 16777216+r2 * 65536+r3 * 256+r4).toNat,J⟩;exact ⟨q % m,(by simp [hq]),Nat.mod_lt _ WO,H4.out,(hu1.trans b4).trans (bt.trans Td)⟩
theorem tO (m:Nat) (hm:0 < m∧(m:Int)≤1000000000) (w:World) (c:Nat) (A:Option Addr) (n cap:Nat) (h:bJ w c A n cap) :
 Calls Tryz.prog 113 #[.pointer (some ⟨c,0,none⟩),.int .i64 m] w fun e w'=>∃r:Bool,e = .returned (.bool r)∧bJ w' c A n cap∧nN [c] w w':=by
 have HC:=I h;clear h;have HM:=I hm;clear hm;go_enter Tryz.func113,Tryz.ntmps113;go_wp2_with fail
 refine (ik m HM.out _ c A n cap HC.out).mono ?_;rintro e w1 ⟨k,rfl,hk,H1,hu⟩;replace H1:=I H1;go_wp2;go_ret
 exact ⟨_,rfl,H1.out,hu⟩
theorem wS (S:ByteArray→Prop) (g m mc:Nat) (hm:0 < m∧(m:Int)≤1000000000) (w:World) (c:Nat) (A:Option Addr) (n cap:Nat) (h:bJ w c A n cap) (hg:g≠c) (ki:g < w.heap.size) (hS:∀k,k < m→∃s,w.cell? ⟨g,k,none⟩ = some (.string s)∧S s) :
 Calls Tryz.prog 116 #[.pointer (some ⟨c,0,none⟩),.slice (some ⟨g,0,none⟩) m mc] w fun e w'=>∃s,e = .returned (.string s)∧S s∧bJ w' c A n cap∧nN [c] w w':=by
 have HC:=I h;clear h;have HM:=I hm;clear hm;go_enter Tryz.func116,Tryz.ntmps116;go_wp2_with fail
 refine (ik m HM.out _ c A n cap HC.out).mono ?_;rintro e w1 ⟨k,rfl,hk,H1,hu⟩;replace H1:=I H1;obtain ⟨s,hs,cM⟩:=hS k hk;have pE:(k:Int) < m:=by omega
 have cX:w1.cell? ⟨g,k,none⟩ = some (.string s):=by rw [← hs];exact World.cell?_of_block (hu.block g ki (by simpa using hg))
 go_wp2;go_ret
 exact ⟨_,rfl,cM,H1.out,hu⟩
theorem Dg (S:Int→Prop) (g m mc:Nat) (hm:0 < m∧(m:Int)≤1000000000) (w:World) (c:Nat) (A:Option Addr) (n cap:Nat) (h:bJ w c A n cap) (hg:g≠c) (ki:g < w.heap.size) (hS:∀k,k < m→∃s,w.cell? ⟨g,k,none⟩ = some (.int .i64 s)∧S s) :
 Calls Tryz.prog 72 #[.pointer (some ⟨c,0,none⟩),.slice (some ⟨g,0,none⟩) m mc] w fun e w'=>∃s,e = .returned (.int .i64 s)∧S s∧bJ w' c A n cap∧nN [c] w w':=by
 have HC:=I h;clear h;have HM:=I hm;clear hm;go_enter Tryz.func72,Tryz.ntmps72;go_wp2_with fail
 refine (ik m HM.out _ c A n cap HC.out).mono ?_;rintro e w1 ⟨k,rfl,hk,H1,hu⟩;replace H1:=I H1;obtain ⟨s,hs,cM⟩:=hS k hk;have pE:(k:Int) < m:=by omega
 have cX:w1.cell? ⟨g,k,none⟩ = some (.int .i64 s):=by rw [← hs];exact World.cell?_of_block (hu.block g ki (by simpa using hg))
 go_wp2;go_ret
 exact ⟨_,rfl,cM,H1.out,hu⟩
theorem WS (w:World) (A:Option Addr) (n cap:Nat) (hn:(n:Int)≤1048576) (cE:∀k,k < n→∃(g o:Nat) (v:Int),A = some ⟨g,o,none⟩∧g < w.heap.size∧w.cell? ⟨g,o+k,none⟩ = some (.int .u8 v)∧0≤v∧v≤255) :
 Calls Tryz.prog 33 #[.slice A n cap] w fun e w'=>∃c,e = .returned (.pointer (some ⟨c,0,none⟩))∧w.heap.size≤c∧bJ w' c A n cap∧Below w.heap.size w w':=by
 go_enter Tryz.func33,Tryz.ntmps33;go_wp2_with fail
 go_loopw [3,4] (fun x i wr=>∃(q:Int) (k:Nat),x = .int .i64 q∧i = .int .i64 k∧(0≤q∧q≤1073741823)∧k≤n∧(k:Int)≤4000∧Below w.heap.size w wr) (fun _ i _=>n - (intOf i).toNat)
 case atStart=>exact ⟨94701+n,0,au0,rfl,J,Nat.zero_le _,J,aj _⟩
 case round =>
  obtain ⟨q,k,rfl,rfl,⟨tN,et⟩,vl,hk4,hb⟩:=hrel;by_cases hk:k < n
  ·obtain ⟨g,o,v,rfl,hg,hv,f9,tI⟩:=cE k hk;have hvw:wr.cell? ⟨g,o+k,none⟩ = some (.int .u8 v):=r' hb hv hg;have fc:(n:Int)≤cap∨True:=.inr trivial;by_cases hk5:(k:Int) < 4000
   ·have JS:(k:Int) < n:=J;go_wp2;exact ⟨⟨_,k+1,rfl,N',M2 _ 1073741823 (by decide),J,J,hb⟩,by simp only [intOf];omega⟩
   ·have JS:(k:Int) < n:=J;exact FU
  ·have JS:¬(k:Int) < n:=J;exact FU
theorem mY {w:World} {B e size n:Nat} {v:Value} {xs:List Value} (h:w.ownsRow B e size v n xs):∃A c,v = .slice A n c:=by
 rcases h.2 with ⟨rfl,hn⟩ | ⟨g,cap,dy,rfl,_⟩
 ·subst hn;exact ⟨none,0,rfl⟩
 ·exact ⟨_,_,rfl⟩
theorem EJ {w:World} {B e size n c i:Nat} {v u:Value} {xs:List Value} (h:w.ownsRow B e size v n xs) (hc:∀g,v.ownBlock = some g→g≠c):(w.setCell ⟨c,i,none⟩ u).ownsRow B e size v n xs :=
 h.kept (row:=some c) ⟨rfl,rfl,rfl,by simp [World.setCell],fun k hk bN=>Below.heap_setCell _ _ _ _ (by intro e;apply bN;rw [e])⟩ (by
   by_cases hv:v.ownBlock = some c
   ·exact absurd rfl (hc c hv)
   ·exact .inr hv)
section
variable {α:Type} [ba α]
theorem aY.qF {w w':World} {B B5 e size n:Nat} {v v':Value} {xs:List α} {ds us cs:List Value} {F G:List Nat} {x:α} (row:w.ownsRow B e size v n us) (cA:aY w B xs ds F) (bN:∀g,v.ownBlock = some g→g∉F)
 (hx:am w B5 x cs G) (h5:B≤B5) (d8:∀g,v.ownBlock = some g→g < B5) (hF:∀y∈F,y < B5) (hg:w.grownBy w' v.ownBlock) (cQ:v'.ownBlock = v.ownBlock∨v'.ownBlock = some (w.heap.size+1)) :
 aY w' B (xs++[x]) (ds++cs) (F++G)∧∀g,v'.ownBlock = some g→g∉F++G:=by
 have h1:=cA.push hx h5 hF;have pF:∀g,v.ownBlock = some g→g∉F++G:=fun g hv hm=>by
  rcases List.mem_append.1 hm with hm | hm
  ·exact bN g hv hm
  ·have:=hx.base g hm;have:=d8 g hv;omega
 refine ⟨h1.keep (fun y hy=>hg.block y (h1.lt y hy) (fun hv=>pF y hv.symm hy)) hg.size,fun g hv hm=>?_⟩;rcases cQ with cQ | cQ
 ·exact pF g (cQ.symm.trans hv) hm
 ·have h2:=h1.lt g hm;rw [cQ] at hv;injection hv with hv;omega
end
theorem Qb {P:Program} {t e:TypeId} {z:Value} {size bytes:Nat} (hE:DL P t e z size bytes) {o:Oper} {a:Act} {K:Act→World→Prop} {Q:Exit→Act→World→Prop} (s x:Operand)
 (ho:o.op = .call { callee:=.builtin .append,args:=#[s,x],argTypes:=#[t,t] })
 (w:World) (base:Nat) (v:Value) (n:Nat) (xs:List Value) (bd:w.ownsRow base e size v n xs) (hs:a.eval s = v)
 (cs:List Value) (hx:a.eval x = .slice (some ⟨w.heap.size,0,none⟩) 1 1) (hl:cs.length = size) (h1:∀u∈cs,u.oneCell' = true)
 (hn:n≤2097152) (n9:bytes≤4096) (cP:base≤w.heap.size)
 (h:∀v' w',w'.ownsRow base e size v' (n+1) (xs++cs)→w.grownBy w' v.ownBlock→w.heap.size+1≤w'.heap.size→(v'.ownBlock = v.ownBlock∨v'.ownBlock = some (w.heap.size+1))→K (a.put o.dst v') w'):o.wp P a (w.alloc (.cells cs.toArray e)) K Q:=by
 obtain ⟨ht,hi0,mb,gg⟩:=hE;obtain ⟨i,hi,hz,hsize,hb⟩:=info_parts hi0;have fL:(n+1) * bytes≤2097153 * 4096:=Nat.mul_le_mul J n9;have jK:∀j u,cs[j]? = some u→(w.alloc (.cells cs.toArray e)).cell? ((⟨w.heap.size,0,none⟩:Addr).add j) = some u:=by exact zh
 obtain ⟨v',w',hr,h2,h3,h4,h5⟩:=run_append_own_at (P:=P) (w.alloc (.cells cs.toArray e)) base t o.type e i z size bytes ht hi hz hsize hb mb gg v n xs (bd.alloc _) ⟨w.heap.size,0,none⟩ 1 1 cs J jK h1 lA J (by simp;omega);unfold Oper.wp execOp;simp only [ho,resolve,invoke,builtin,Sem.run_bind,Sem.run_pure,Result.andThen_ok,List.map_toArray,List.map_cons,List.map_nil,hs,hx,hr];refine h v' w' h2 ⟨h3.os,h3.tape,h3.output,Nat.le_trans S' h3.size,fun k hk bN=>?_⟩ (by have:=h3.size;simpa using this) (by simpa using h5);rw [h3.block k (by simp;omega) bN];exact Below.heap_alloc _ _ _ hk
theorem rW {α:Type} [ba α] {P:Program} {t e:TypeId} {z:Value} {size bytes:Nat} (hE:DL P t e z size bytes) (hd:ba.size α = size) {ops:Array Oper} {rest:List Oper} {o:Oper} {a:Act} {Q:Exit→Act→World→Prop} (tA:o.guard = none) (s x:Operand)
 (ho:o.op = .call { callee:=.builtin .append,args:=#[s,x],argTypes:=#[t,t] })
 (w:World) (base:Nat) (v:Value) (n:Nat) (xs:List Value) (bd:w.ownsRow base e size v n xs) (hs:a.eval s = v)
 (ys:List α) (A:Option Addr) (c:Nat) (F:List Nat) (ju:Sl w ys A c F) (hx:a.eval x = .slice A ys.length c)
 (hn:n+ys.length≤2097152) (n9:bytes≤4096) (cP:base≤w.heap.size)
 (h:∀v' w' ds G,jo w ys ds G→(∀b∈G,b∈F)→w'.ownsRow base e size v' (n+ys.length) (xs++ds)→w.grownBy w' v.ownBlock→(v'.ownBlock = v.ownBlock∨v'.ownBlock = some w.heap.size)→wpList P ops Q rest (a.put o.dst v') w'):wpList P ops Q (o :: rest) a w:=by
 subst hd;obtain ⟨ht,hi0,mb,gg⟩:=hE;obtain ⟨i,hi,hz,hsize,hb⟩:=info_parts hi0;have fL:(n+ys.length) * bytes≤2097152 * 4096:=Nat.mul_le_mul hn n9;obtain ⟨A',c',G,ds,e0,h1,h2,hc,h0⟩:=ju;simp only [List.cons.injEq,Value.slice.injEq,and_true,true_and] at e0;obtain ⟨rfl,rfl⟩:=e0;have some_:∀(ad:Addr),A = some ad→(∀j u,ds[j]? = some u→w.cell? (ad.add j) = some u)→wpList P ops Q (o :: rest) a w:=by
  intro ad hA bC;subst hA;have hG:∀b∈G,b∈F:=by
   exact GK
  exact wpList_append_own_at w tA s x t ho base e i z (ba.size α) bytes ht hi hz hsize hb mb gg v n xs hs bd ad ys.length c ds hx hc.len bC hc.one lA J cP (fun v' w' mC hg _ cQ=>h v' w' ds G hc hG mC hg cQ)
 rcases h0 with ⟨rfl,rfl⟩ | ⟨b,o',hA,rfl,hb,bC⟩
 ·obtain ⟨rfl,rfl⟩:=hc;cases A with
  | some ad=>exact some_ ad rfl (fun j u hu=>by simp at hu)
  | none =>
    have fin:∀(A2:Option Addr) (cap:Nat),v = .slice A2 n cap→n≤cap→wpList P ops Q (o :: rest) a w:=by intro A2 cap hv eM;refine wpList_plain tA fun K hK=>?_;have hr:=run_append_nothing (P:=P) w t t o.type e i ht hi A2 n cap eM (.slice none 0 c) (Src.ofNil w ht c);unfold Oper.wp execOp;simp only [ho,resolve,invoke,builtin,Sem.run_bind,Sem.run_pure,Result.andThen_ok,List.map_toArray,List.map_cons,List.map_nil,hs,hv,hx,List.length_nil,hr];refine hK _ _ ?_;subst hv;exact h _ w [] [] ⟨rfl,rfl⟩ (fun b hb=>hb) (by simpa using bd) ⟨rfl,rfl,rfl,Nat.le_refl _,fun _ _ _=>rfl⟩ (.inl rfl)
    rcases bd.2 with ⟨hv,va⟩ | ⟨g,cap,dy,hv,_,_,eM,_⟩
    ·exact fin none 0 (by rw [hv,va]) J
    ·exact fin _ cap hv eM
 ·refine some_ _ hA fun j u hu=>?_;exact GV
section
variable {α:Type} [ba α] {w:World}
theorem ye (hf:∀{w:World} {x:α} {cs:List Value} {F:List Nat},rd w x cs F→F = []):∀{xs:List α} {ds:List Value} {F:List Nat},jo w xs ds F→F = []
 | [],_,_,h=>h.2
 | x :: xs,_,_,⟨c1,c2,F1,F2,_,rfl,h1,h2⟩=>by rw [hf h1,ye hf h2];rfl
theorem am.of_flat {B:Nat} {e:TypeId} {v:Value} {xs:List α} {ds:List Value} {F:List Nat} (hf:∀{w:World} {x:α} {cs:List Value} {F:List Nat},Go.Proofs.YtajbbmembionpaaGreat.ba.rd w x cs F→F = []) (h0:w.ownsRow B e (ba.size α) v xs.length ds) (h:jo w xs ds F) :
 ∃A c G,v = .slice A xs.length c∧am w B xs [.slice A xs.length c] G:=by
 obtain rfl:=ye hf h;exact am.oJ h0 ⟨h,List.nodup_nil,(fun b hb=>by cases hb),(fun b hb=>by cases hb)⟩ (fun g _ hm=>by cases hm)
end
theorem eD.oJ {w:World} {B e size n:Nat} {v:Value} {ds:List Value} (h:w.ownsRow B e size v n ds):(v = .slice none 0 0∧n = 0)∨∃g cap N,v = .slice (some ⟨g,0,none⟩) n cap∧B≤g∧eD w g e N ds∧n≤cap∧cap≤maxLen:=by
 rcases h with ⟨hl,h | ⟨g,cap,dy,rfl,hb,hh,eM,hm,cA,ht⟩⟩
 ·exact .inl h
 ·refine .inr ⟨g,cap,dy.size,rfl,hb,⟨dy,hh,rfl,?_,fun j u hu=>?_⟩,eM,hm⟩
  ·rw [hl,cA];exact Nat.mul_le_mul_right _ eM
  ·exact yX
theorem eD.set {w:World} {g:Nat} {t:TypeId} {N:Nat} {ds:List Value} (h:eD w g t N ds) {i:Nat} (hi:i < ds.length) (u:Value):eD (w.setCell ⟨g,i,none⟩ u) g t N (ds.set i u):=by
 obtain ⟨cs,h,rfl,hl,hc⟩:=h;refine ⟨cs.setIfInBounds i u,?_,S',by simpa using hl,fun j v hv=>?_⟩
 ·simp [World.setCell,Array.getElem?_modify,h]
 ·by_cases hj:i = j
  ·subst hj;rw [List.getElem?_set_self hi] at hv;cases hv
   rw [Array.getElem?_setIfInBounds_self_of_lt J]
  ·rw [List.getElem?_set_ne hj] at hv;rw [Array.getElem?_setIfInBounds_ne hj];exact hc j v hv
theorem eD.at_ {w:World} {g:Nat} {t:TypeId} {N:Nat} {ds:List Value} (h:eD w g t N ds) {j:Nat} {u:Value} (hj:ds[j]? = some u):w.cell? ⟨g,j,none⟩ = some u:=by have:=h.cells j u hj;simpa using this
theorem anQ:(Tryz.prog.info? 67).map (fun i=>(i.zero,i.size,i.bytes)) = some (some ((.agg #[.string ⟨#[]⟩,.string ⟨#[]⟩])),2,32):=by kernel_rfl
theorem VM:DL Tryz.prog 31 67 ((.agg #[.string ⟨#[]⟩,.string ⟨#[]⟩])) 2 32:=⟨Tryz.underlying31,anQ,rfl,J⟩
theorem VN {w:World} {x:ao} {cs:List Value} {F:List Nat} (h:rd w x cs F):F = []:=by obtain ⟨_,hF,_⟩:=vO h;exact hF
theorem anR:(Tryz.prog.info? 126).map (fun i=>(i.zero,i.size,i.bytes)) = some (some ((.agg #[.string ⟨#[]⟩,.string ⟨#[]⟩,.int .i64 0])),3,40):=by kernel_rfl
theorem alP:DL Tryz.prog 45 126 ((.agg #[.string ⟨#[]⟩,.string ⟨#[]⟩,.int .i64 0])) 3 40:=⟨Tryz.underlying45,anR,rfl,J⟩
theorem aiH {w:World} {x:iU} {cs:List Value} {F:List Nat} (h:rd w x cs F):F = []:=by obtain ⟨_,hF,_⟩:=oK h;exact hF
theorem afp:(Tryz.prog.info? 117).map (fun i=>(i.zero,i.size,i.bytes)) = some (some ((.agg #[.string ⟨#[]⟩,.bool false,.string ⟨#[]⟩,.int .i64 0])),4,48):=by kernel_rfl
theorem abo:DL Tryz.prog 33 117 ((.agg #[.string ⟨#[]⟩,.bool false,.string ⟨#[]⟩,.int .i64 0])) 4 48:=⟨Tryz.underlying33,afp,rfl,J⟩
theorem Zk {w:World} {x:bH} {cs:List Value} {F:List Nat} (h:rd w x cs F):F = []:=by obtain ⟨_,hF,_⟩:=jv h;exact hF
theorem Xj:(Tryz.prog.info? 9).map (fun i=>(i.zero,i.size,i.bytes)) = some (some (.string ⟨#[]⟩),1,16):=by kernel_rfl
theorem Ud:DL Tryz.prog 40 9 (.string ⟨#[]⟩) 1 16:=⟨Tryz.underlying40,Xj,rfl,J⟩
theorem P8 {w:World} {x:ByteArray} {cs:List Value} {F:List Nat} (h:rd w x cs F):F = []:=h.2.1
theorem apQ:(Tryz.prog.info? 70).map (fun i=>(i.zero,i.size,i.bytes)) = some (some ((.agg #[.string ⟨#[]⟩,.int .i64 0,.slice none 0 0])),3,48):=by kernel_rfl
theorem apf:DL Tryz.prog 32 70 ((.agg #[.string ⟨#[]⟩,.int .i64 0,.slice none 0 0])) 3 48:=⟨Tryz.underlying32,apQ,rfl,J⟩
structure qL (w wk:World) (cs zs os:List Value):Prop where
 box:oG wk w.heap.size cs
 rb:oG wk (w.heap.size+1) zs
 ob:oG wk (w.heap.size+1+1) os
 below:Below w.heap.size w wk
section
variable {w wk w':World} {cs zs os:List Value}
theorem qL.new (w:World) (cs zs os:List Value) (t t2 t3:TypeId):qL w (((w.alloc (.cells cs.toArray t)).alloc (.cells zs.toArray t2)).alloc (.cells os.toArray t3)) cs zs os :=
 ⟨((oG.new w cs t).ext (ak (aj _) _)).ext (ak (aj _) _),(by have:=oG.new (w.alloc (.cells cs.toArray t)) zs t2;rw [World.size_alloc] at this;exact this.ext (ak (aj _) _)),(by have:=oG.new ((w.alloc (.cells cs.toArray t)).alloc (.cells zs.toArray t2)) os t3;rw [World.size_alloc,World.size_alloc] at this;exact this),ak (ak (ak (aj _) _) _) _⟩
theorem qL.ext (h:qL w wk cs zs os) (hb:Below wk.heap.size wk w'):qL w w' cs zs os:=⟨h.box.ext hb,h.rb.ext hb,h.ob.ext hb,ah h.below hb⟩
theorem qL.put (h:qL w wk cs zs os) (i:Nat) (u:Value):qL w (wk.setCell ⟨w.heap.size+1+1,i,none⟩ u) cs zs (os.set i u):=⟨h.box.bj J i u,h.rb.bj J i u,h.ob.put i u,aC h.below bA u⟩
end
theorem L6 {α:Type} [ba α] {w w':World} {x:α} {cs:List Value} {F:List Nat} (h:rd w x cs F) (hb:Below w.heap.size w w'):rd w' x cs F:=ba.frame h (fun b ei=>hb.block b (ba.lt h b ei)) hb.size
theorem rQ {w w':World} {B e size n b:Nat} {v:Value} {xs:List Value} (h:w.ownsRow B e size v n xs) (hu:nN [b] w w') (hb:b < B):w'.ownsRow B e size v n xs :=
 h.kept (row:=some b) ⟨hu.os,hu.tape,hu.output,hu.size,fun k hk bN=>hu.block k hk (by simpa using fun e=>bN (by rw [e]))⟩ (by
   by_cases hv:v.ownBlock = some b
   ·have:=(h.lt b hv).1;omega
   ·exact .inr hv)
theorem nN.alloc {F:List Nat} {w w1:World} (h:nN F w w1) (o:Obj):nN F w (w1.alloc o):=h.trans (nN.lq F (ak (aj _) o))
theorem setCells_size (b:Nat):∀(vs:List Value) (o:Nat) (w:World),(w.setCells b o vs).heap.size = w.heap.size
 | [],_,_=>rfl
 | v :: r,o,w=>by rw [World.setCells,setCells_size b r];simp [World.setCell]
theorem vV (b:Nat) {k:Nat} (hk:k≠b):∀(vs:List Value) (o:Nat) (w:World),(w.setCells b o vs).heap[k]? = w.heap[k]?
 | [],_,_=>rfl
 | v :: r,o,w=>by rw [World.setCells,vV b hk r];exact Below.heap_setCell _ _ _ _ bA
theorem F8 (b:Nat):∀(vs:List Value) (o:Nat) (w:World),(w.setCells b o vs).os = w.os∧(w.setCells b o vs).tape = w.tape∧(w.setCells b o vs).output = w.output
 | [],_,_=>⟨rfl,rfl,rfl⟩
 | v :: r,o,w=>by rw [World.setCells];exact F8 b r (o+1) _
theorem EK (b:Nat):∀(vs:List Value) (o:Nat) (w:World),Plain w b→Plain (w.setCells b o vs) b
 | [],_,_,h=>h
 | v :: r,o,w,h=>by rw [World.setCells];exact EK b r (o+1) _ (h.setCell b o v)
def er (w:World) (B:Nat) (e:TypeId) (size:Nat) (A:Option Addr) (c:Nat):Prop :=
 (A = none∧c = 0)∨∃g dy,A = some ⟨g,0,none⟩∧B≤g∧w.heap[g]? = some (.cells dy e (0,0))∧c≤maxLen∧dy.size = c * size
section
variable {w w':World} {B size c:Nat} {e:TypeId} {A:Option Addr}
theorem er.oJ {B' n m:Nat} {xs:List Value} (h:w.ownsRow B' e size (.slice A n c) m xs) (hB:B≤B'):er w B e size A c:=by
 rcases h.2 with ⟨h1,_⟩ | ⟨g,cap,dy,h1,h2,h3,h4,h5,h6,_⟩
 ·simp only [Value.slice.injEq] at h1;exact .inl ⟨h1.1,h1.2.2⟩
 ·simp only [Value.slice.injEq] at h1;obtain ⟨rfl,_,rfl⟩:=h1;exact .inr ⟨g,dy,rfl,Nat.le_trans hB h2,h3,h5,h6⟩
theorem er.ext (h:er w B e size A c) (hb:Below w.heap.size w w'):er w' B e size A c:=by
 rcases h with h | ⟨g,dy,h1,h2,h3,h4⟩
 ·exact .inl h
 ·have hg:g < w.heap.size:=by
   exact zv
  exact .inr ⟨g,dy,h1,h2,(hb.block g hg).trans h3,h4⟩
theorem er.drawn {b:Nat} (h:er w B e size A c) (hu:nN [b] w w') (hb:b < B):er w' B e size A c:=by
 rcases h with h | ⟨g,dy,h1,h2,h3,h4⟩
 ·exact .inl h
 ·have hg:g < w.heap.size:=by
   exact zv
  exact .inr ⟨g,dy,h1,h2,(hu.block g hg (by simp;omega)).trans h3,h4⟩
theorem er.mono {B':Nat} (h:er w B e size A c) (hB:B'≤B):er w B' e size A c:=by
 rcases h with h | ⟨g,dy,h1,h2,h3⟩
 ·exact .inl h
 ·exact .inr ⟨g,dy,h1,Nat.le_trans hB h2,h3⟩
theorem er.lt (h:er w B e size A c):∀g,A = some ⟨g,0,none⟩→g < w.heap.size:=by
 rintro g rfl;rcases h with ⟨h,_⟩ | ⟨g,dy,h1,h2,h3,h4⟩
 ·cases h
 ·simp only [Option.some.injEq,Addr.mk.injEq,and_true] at h1;subst h1;exact zv
theorem er.keep (h:er w B e size A c) (hk:∀g,A = some ⟨g,0,none⟩→w'.heap[g]? = w.heap[g]?):er w' B e size A c:=by
 rcases h with h | ⟨g,dy,h1,h2,h3,h4⟩
 ·exact .inl h
 ·exact .inr ⟨g,dy,h1,h2,(hk g h1).trans h3,h4⟩
theorem er.bj {b:Nat} (h:er w B e size A c) (hb:b < B) (j:Nat) (v:Value):er (w.setCell ⟨b,j,none⟩ v) B e size A c:=by
 rcases h with h | ⟨g,dy,h1,h2,h3,h4⟩
 ·exact .inl h
 ·exact .inr ⟨g,dy,h1,h2,(Below.heap_setCell _ _ _ _ bA).trans h3,h4⟩
theorem am.o8 {α:Type} [ba α] {xs:List α} {F:List Nat} (h:am w B xs [.slice A xs.length c] F) (hr:er w B e (ba.size α) A c):∃ds G,w.ownsRow B e (ba.size α) (.slice A xs.length c) xs.length ds∧aY w B xs ds G∧(∀g,(Value.slice A xs.length c).ownBlock = some g→g∉G):=by
 obtain ⟨A',c',G,ds,e0,hl,hm,hc,h0⟩:=h.rd;simp only [List.cons.injEq,Value.slice.injEq,and_true,true_and] at e0;obtain ⟨rfl,rfl⟩:=e0;have gD:ds.length = xs.length * ba.size α:=hc.len;rcases h0 with ⟨hx,qp⟩ | ⟨b,o,hb,oX,aq,bC⟩
 ·subst hx;obtain rfl:ds = []:=List.eq_nil_of_length_eq_zero (by simpa using gD);refine ⟨[],[],⟨S',?_⟩,aY.nil w B,fun g _ hg=>by cases hg⟩;rcases hr with ⟨rfl,rfl⟩ | ⟨g,dy,rfl,h2,h3,h4,h5⟩
  ·exact .inl ⟨rfl,rfl⟩
  ·exact .inr ⟨g,c,dy,rfl,h2,h3,hl,h4,h5,S'⟩
 ·subst hb;rcases hr with ⟨h1,_⟩ | ⟨g,dy,h1,h2,h3,h4,h5⟩
  ·cases h1
  ·simp only [Option.some.injEq,Addr.mk.injEq,and_true] at h1;obtain ⟨rfl,rfl⟩:=h1;subst oX;have hn:=List.nodup_cons.1 h.nodup;refine ⟨ds,G,⟨gD,.inr ⟨b,c,dy,rfl,h2,h3,hl,h4,h5,?_⟩⟩,⟨hc,hn.2,fun b hb=>h.base b (List.mem_cons_of_mem _ hb),fun b hb=>h.plain b (List.mem_cons_of_mem _ hb)⟩,fun q hq=>by simp only [Value.ownBlock,Option.some.injEq] at hq;subst hq;exact hn.1⟩;apply List.ext_getElem?;intro j;rw [List.getElem?_take];by_cases hj:j < xs.length * ba.size α
   ·rw [if_pos hj];have hd:ds[j]? = some ds[j]:=List.getElem?_eq_getElem J;have:=bC j _ hd;rw [Nat.zero_add,cell_of_row w b j dy e (0,0) h3] at this;rw [hd,← this];simp
   ·rw [if_neg hj,List.getElem?_eq_none J]
end
section
variable {β:Type} {row:β→List Value} {S:Nat}
def qC (row:β→List Value) (S:Nat) (w:World) (b o:Nat) (D:List β):Prop:=∀k x,D[k]? = some x→∀j u,(row x)[j]? = some u→w.cell? ⟨b,o+k * S+j,none⟩ = some u
theorem qC.put {w:World} {b o:Nat} {D:List β} (h:qC row S w b o D) (hS:∀x,(row x).length = S) {i:Nat} (hi:i < D.length) (y:β):qC row S (w.setCells b (o+i * S) (row y)) b o (D.set i y):=by
 intro k x hk j u hj;have GY:j < S:=by rw [← hS x];exact (List.getElem?_eq_some_iff.1 hj).1
 have hex:∀q,q < (row y).length→(w.cell? ⟨b,o+i * S+q,none⟩).isSome = true:=fun q hq=>by
  rw [hS] at hq;have hx:=h i D[i] (List.getElem?_eq_getElem hi) q ((row D[i])[q]'(by rw [hS];exact hq)) (List.getElem?_eq_getElem _);rw [hx];rfl
 by_cases hik:i = k
 ·subst hik;rw [List.getElem?_set_self hi] at hk;obtain rfl:=Option.some.inj hk;have:=World.cell?_setCells_in b (row y) (o+i * S) w hex j (by rw [hS];exact GY);rw [this,← hj];exact (List.getElem?_eq_getElem _).symm
 ·rw [List.getElem?_set_ne hik] at hk;rw [World.cell?_setCells_out b _ _ _ _ (fun _ _=>?_)]
  ·exact h k x hk j u hj
  ·dsimp only;rw [hS];rcases Nat.lt_or_gt_of_ne hik with h1 | h1
   ·right;have:(i+1) * S≤k * S:=Nat.mul_le_mul_right _ h1;rw [Nat.succ_mul] at this;omega
   ·left;have:(k+1) * S≤i * S:=Nat.mul_le_mul_right _ h1;rw [Nat.succ_mul] at this;omega
theorem qC.at_ {w:World} {b o:Nat} {D:List β} (h:qC row S w b o D) {k:Nat} (hk:k < D.length) {j:Nat} {u:Value} (hj:(row D[k])[j]? = some u):w.cell? ⟨b,o+k * S+j,none⟩ = some u:=h k D[k] (List.getElem?_eq_getElem hk) j u hj
theorem qC.keep {w w':World} {b o:Nat} {D:List β} (h:qC row S w b o D) (hk:w'.heap[b]? = w.heap[b]?):qC row S w' b o D:=fun k x hx j u hj=>(World.cell?_of_block hk).trans (h k x hx j u hj)
theorem qC.ext {w w':World} {b o:Nat} {D:List β} (h:qC row S w b o D) (hb:b < w.heap.size) (he:Below w.heap.size w w'):qC row S w' b o D:=h.keep (he.block b hb)
def WQ (D:List β) (i j:Nat):List β:=match D[i]?,D[j]? with | some x,some y=>(D.set i y).set j x | _,_=>D
theorem asA {D:List β} {i j:Nat} (hi:i < D.length) (hj:j < D.length):WQ D i j = (D.set i D[j]).set j D[i]:=by unfold WQ;rw [List.getElem?_eq_getElem hi,List.getElem?_eq_getElem hj]
structure jJ (row:β→List Value) (S:Nat) (w0 w:World) (b o:Nat) (D:List β):Prop where
 tab:qC row S w b o D
 plain:Plain w b
 bI:nN [b] w0 w
theorem jJ.ext {w0 w w':World} {b o:Nat} {D:List β} (h:jJ row S w0 w b o D) (he:Below w.heap.size w w'):jJ row S w0 w' b o D :=
 ⟨h.tab.ext h.plain.lt he,by obtain ⟨ds,t,hp⟩:=h.plain;exact ⟨ds,t,(he.block b h.plain.lt).trans hp⟩,h.bI.trans (nN.lq _ he)⟩
theorem jJ.put {w0 w:World} {b o:Nat} {D:List β} (h:jJ row S w0 w b o D) (hS:∀x,(row x).length = S) {i:Nat} (hi:i < D.length) (y:β):jJ row S w0 (w.setCells b (o+i * S) (row y)) b o (D.set i y):=by
 refine ⟨h.tab.put hS hi y,EK b _ _ _ h.plain,?_⟩;have e:=F8 b (row y) (o+i * S) w;exact h.bI.trans ⟨e.1,e.2.1,e.2.2,by rw [setCells_size];exact Nat.le_refl _,fun k _ hk=>vV b Mt _ _ _⟩
theorem jJ.swap {w0 w:World} {b o:Nat} {D:List β} (h:jJ row S w0 w b o D) (hS:∀x,(row x).length = S) {i j:Nat} (hi:i < D.length) (hj:j < D.length) :
 jJ row S w0 ((w.setCells b (o+i * S) (row D[j])).setCells b (o+j * S) (row D[i])) b o (WQ D i j):=by
 rw [asA hi hj];exact (h.put hS hi D[j]).put hS (by rw [List.length_set];exact hj) D[i]
theorem jx (A B:List β) (x y:β) (n:Nat) (hn:A.length = n):(A++x :: B).set n y = A++y :: B:=by
 subst hn;rw [List.set_append_right _ _ (Nat.le_refl _),Nat.sub_self,List.set_cons_zero]
theorem am1 (p u m v q:List β) (k:Nat) (hk:k < u.length) (hl:u.length = v.length) :
 WQ (p++(v.take k++(u.drop k++(m++(u.take k++(v.drop k++q)))))) (p.length+k) (p.length+u.length+m.length+k) = p++(v.take (k+1)++(u.drop (k+1)++(m++(u.take (k+1)++(v.drop (k+1)++q))))):=by
 have CA:k < v.length:=by omega
 have e1:(v.take k).length = k:=by rw [List.length_take];omega
 have e2:(u.take k).length = k:=by rw [List.length_take];omega
 obtain ⟨a,ha⟩:∃a,u[k] = a:=⟨_,rfl⟩;obtain ⟨c,hc⟩:∃c,v[k] = c:=⟨_,rfl⟩;have du:u.drop k = a :: u.drop (k+1):=by rw [← ha];exact (List.getElem_cons_drop ..).symm
 have dv:v.drop k = c :: v.drop (k+1):=by rw [← hc];exact (List.getElem_cons_drop ..).symm
 have tu:u.take (k+1) = u.take k++[a]:=by rw [← ha];exact List.take_succ_eq_append_getElem hk
 have tv:v.take (k+1) = v.take k++[c]:=by rw [← hc];exact List.take_succ_eq_append_getElem CA
 have lu:(u.drop (k+1)).length = u.length - (k+1):=by rw [List.length_drop]
 rw [du,dv,tu,tv];have gi:(p++(v.take k++(a :: u.drop (k+1)++(m++(u.take k++(c :: v.drop (k+1)++q))))))[p.length+k]? = some a:=by rw [List.getElem?_append_right J,List.getElem?_append_right J];simp [e1]
 have gj:(p++(v.take k++(a :: u.drop (k+1)++(m++(u.take k++(c :: v.drop (k+1)++q))))))[p.length+u.length+m.length+k]? = some c:=by rw [List.getElem?_append_right J,List.getElem?_append_right J,List.getElem?_append_right (by simp;omega),List.getElem?_append_right (by simp;omega),List.getElem?_append_right (by simp;omega),e1,e2];simp only [List.length_cons,lu,List.cons_append];rw [show p.length+u.length+m.length+k - p.length - k - (u.length - (k+1)+1) - m.length - k = 0 by omega];rfl
 unfold WQ;rw [gi,gj];dsimp only;have s1:(p++(v.take k++(a :: u.drop (k+1)++(m++(u.take k++(c :: v.drop (k+1)++q)))))).set (p.length+k) c = p++(v.take k++(c :: u.drop (k+1)++(m++(u.take k++(c :: v.drop (k+1)++q))))):=by
  have h:=jx (p++v.take k) (u.drop (k+1)++(m++(u.take k++(c :: v.drop (k+1)++q)))) a c (p.length+k) (by rw [List.length_append,e1]);simpa only [List.append_assoc,List.cons_append] using h
 have s2:(p++(v.take k++(c :: u.drop (k+1)++(m++(u.take k++(c :: v.drop (k+1)++q)))))).set (p.length+u.length+m.length+k) a = p++(v.take k++(c :: u.drop (k+1)++(m++(u.take k++(a :: v.drop (k+1)++q))))):=by have h:=jx (p++(v.take k++(c :: u.drop (k+1)++(m++u.take k)))) (v.drop (k+1)++q) c a (p.length+u.length+m.length+k) (by simp only [List.length_append,List.length_cons,e1,e2,lu];omega);simpa only [List.append_assoc,List.cons_append] using h
 rw [s1,s2];simp only [List.append_assoc,List.cons_append,List.nil_append]
theorem am2 (p u m v q:List β) (k:Nat) (hk:k < u.length) (hl:u.length = v.length):(p++(v.take k++(u.drop k++(m++(u.take k++(v.drop k++q))))))[p.length+k]? = some u[k]:=by
 have e1:(v.take k).length = k:=by rw [List.length_take];omega
 rw [List.getElem?_append_right J,List.getElem?_append_right J,e1,show p.length+k - p.length - k = 0 by omega,List.getElem?_append_left Mn,List.getElem?_drop,Nat.add_zero];exact List.getElem?_eq_getElem hk
theorem ajg (p u m v q:List β) (k:Nat) (hk:k < v.length) (hl:u.length = v.length):(p++(v.take k++(u.drop k++(m++(u.take k++(v.drop k++q))))))[p.length+u.length+m.length+k]? = some v[k]:=by
 have e1:(v.take k).length = k:=by rw [List.length_take];omega
 have e2:(u.take k).length = k:=by rw [List.length_take];omega
 have e3:(u.drop k).length = u.length - k:=List.length_drop
 rw [List.getElem?_append_right J,List.getElem?_append_right J,List.getElem?_append_right J,List.getElem?_append_right J,List.getElem?_append_right J,e1,e2,e3,
   show p.length+u.length+m.length+k - p.length - k - (u.length - k) - m.length - k = 0 by omega,List.getElem?_append_left Mn,List.getElem?_drop,Nat.add_zero]
 exact List.getElem?_eq_getElem hk
theorem jJ.swap_ {w0 w:World} {b o:Nat} {D:List β} (h:jJ row S w0 w b o D) (hS:∀x,(row x).length = S) {i j:Nat} {x y:β} (hi:D[i]? = some x) (hj:D[j]? = some y) :
 jJ row S w0 ((w.setCells b (o+i * S) (row y)).setCells b (o+j * S) (row x)) b o (WQ D i j):=by
 obtain ⟨hi1,rfl⟩:=List.getElem?_eq_some_iff.1 hi;obtain ⟨MG,rfl⟩:=List.getElem?_eq_some_iff.1 hj;exact h.swap hS hi1 MG
end
end Go.Proofs.YtajbbmembionpaaGreat
