/- DeletePod, of the reference. No condition. -/
import Derived.Test.YtkjeocdobidadaaGreatOpsP
import Derived.Test.YtkjeocdobidadaaGreatRegionCut
import Derived.Test.YtkjeocdobidadaaGreatClusterS
namespace Go.Proofs.YtkjeocdobidadaaGreat
open Go.ChangeShapes Go.WideShapes Go.ChangeAt Go.RowKit
set_option linter.unusedVariables false
set_option linter.unusedSimpArgs false
set_option maxHeartbeats 4000000
set_option maxRecDepth 100000
theorem RD {P:Program} {t e:TypeId} {z:Value} {size bytes:Nat} (hE:DL P t e z size bytes) {o:Oper} {a:Act} {K:Act→World→Prop} {Q:Exit→Act→World→Prop} (s x:Operand)
 (ho:o.op = .call { callee:=.builtin .append,args:=#[s,x],argTypes:=#[t,t] })
 (w:World) (base:Nat) (v:Value) (n:Nat) (xs:List Value) (hown:w.ownsRow base e size v n xs) (hs:a.eval s = v)
 (ad:Addr) (m c:Nat) (news:List Value) (hx:a.eval x = .slice (some ad) m c) (hl:news.length = m * size) (hnews:∀j u,news[j]? = some u→w.cell? (ad.add j) = some u) (h1:∀u∈news,u.oneCell' = true)
 (hn:n+m≤2097152) (hby:bytes≤4096) (hbase:base≤w.heap.size)
 (h:∀v' w',w'.ownsRow base e size v' (n+m) (xs++news)→w.grownBy w' v.ownBlock→(v'.ownBlock = v.ownBlock∨v'.ownBlock = some w.heap.size)→K (a.put o.dst v') w'):o.wp P a w K Q:=by
 obtain ⟨ht,hi0,hzs,hsz⟩:=hE;obtain ⟨i,hi,hz,hsize,hb⟩:=info_parts hi0;have hbb:(n+m) * bytes≤2097152 * 4096:=Nat.mul_le_mul hn hby;obtain ⟨v',w',hr,h2,h3,h4,h5⟩:=run_append_own_at (P:=P) w base t o.type e i z size bytes ht hi hz hsize hb hzs hsz v n xs hown ad m c news hl hnews h1 at6 O' hbase;unfold Oper.wp execOp;simp only [ho,resolve,invoke,builtin,Sem.run_bind,Sem.run_pure,Result.andThen_ok,List.map_toArray,List.map_cons,List.map_nil,hs,hx,hr];exact h v' w' h2 h3 h5
theorem Own.apw {α:Type} [Dat α] {w:World} {B:Nat} {xs:List α} {ds:List Value} {F:List Nat} {e:TypeId} {v:Value} (h0:w.ownsRow B e (Dat.size α) v xs.length ds) (h:aY w B xs ds F) (hne:∀g,v.ownBlock = some g→g∉F):∃A c G,v = .slice A xs.length c∧Own w B xs [.slice A xs.length c] G∧∀y∈G,y∈F∨v.ownBlock = some y:=by
 exact Zabx
theorem ownNeK {α:Type} [Dat α] {w:World} {B c i:Nat} {u:Value} {x:α} {cs:List Value} {F:List Nat} (h:Own w B x cs F) (hF:∀y∈F,y≠c):Own (w.setCell ⟨c,i,none⟩ u) B x cs F :=
 h.keep (fun y hy=>Below.heap_setCell _ _ _ _ avg) aua
theorem Own.amG {α:Type} [Dat α] {w:World} {B c:Nat} {xs:List α} {A:Option Addr} {F:List Nat} (h:Own w B xs [.slice A xs.length c] F) {i:Nat} (hi:i < xs.length) :
 ∃b o ds G,A = some ⟨b,o,none⟩∧b∈F∧b < w.heap.size∧xs.length≤c∧c≤maxLen∧ds.length = xs.length * Dat.size α∧(∀u∈ds,u.oneCell' = true)∧Cells w b o ds ∧
  aY w B (xs.eraseIdx i) (ds.take (i * Dat.size α)++ds.drop ((i+1) * Dat.size α)) G∧(∀y∈G,y∈F):=by
 obtain ⟨⟨A',c',G,ds,e,hc1,hc2,hc,h0⟩,hnd,hbase,hplain⟩:=h;simp only [List.cons.injEq,Value.slice.injEq,and_true,true_and] at e;obtain ⟨rfl,rfl⟩:=e;rcases h0 with h0 | ⟨b,o,rfl,rfl,hb,hcell⟩
 ·rw [h0.1] at hi;cases hi
 have hone:=hc.one;have hlen:=hc.len;obtain ⟨d1,ck,d2,G1,Fk,G2,rfl,rfl,r1,r2,r3,hd1⟩:=hc.split hi;have hckl:=Dat.len r2;have e1:(d1++(ck++d2)).take (i * Dat.size α) = d1:=by rw [← hd1,List.take_left]
 have e2:(d1++(ck++d2)).drop ((i+1) * Dat.size α) = d2:=by rw [← List.append_assoc,show (i+1) * Dat.size α = (d1++ck).length by rw [List.length_append,hd1,hckl,Nat.succ_mul],List.drop_left]
 simp only [List.nodup_cons,List.nodup_append,List.mem_append,not_or] at hnd;have hx:(xs.eraseIdx i) = xs.take i++xs.drop (i+1):=List.eraseIdx_eq_take_drop_succ ..;have hsub:∀y∈G1++G2,y∈b :: (G1++(Fk++G2)):=fun y hy=>by
  rcases List.mem_append.1 hy with hy | hy <;> simp [hy]
 refine ⟨b,o,_,G1++G2,rfl,List.mem_cons_self ..,hb,hc1,hc2,hlen,hone,hcell,⟨?_,?_,fun y hy=>hbase y (hsub y hy),fun y hy=>hplain y (hsub y hy)⟩,hsub⟩
 ·rw [hx,e1,e2];exact r1.append r3
 ·rw [List.nodup_append];exact ⟨hnd.2.1,hnd.2.2.1.2.1,fun x hx y hy=>hnd.2.2.2 x hx y (Or.inr hy)⟩
theorem afS (x:aU) (cs:List Value) (F:List Nat) (nm:ByteArray) (w:World) (h:rd w x cs F) (hw:(x.wt:Int)≤1048576) :
 Calls Tryz.prog 52 #[.agg cs.toArray,.string nm] w fun e w'=>∃ds G,e = .returned (.tuple #[.agg ds.toArray,.int .i64 (Ut x nm).2])∧Own w' w.heap.size (Ut x nm).1 ds G∧Below w.heap.size w w':=by
 have hpl:(x.au.length:Int)≤1048576:=by have h1:=gJ Placed.wt x.au;have h2:x.wt = kL Host.wt x.hosts+kL Placed.wt x.au:=rfl;omega
 have HW:=I' hw;have Ji:=I' hpl;clear hw;have hr:=h;obtain ⟨bG,bD,fQ,dn,bW,jg,hck,qp,bQ,dM,hnext,aV,aP,aW⟩:=aO hr;subst hck;clear qp hr;have hil:=Nc (p:=CG nm) x.au;cases hc:iI x
 ·have HF:=I' (show Ut x nm = (x,1) by unfold Ut;rw [hc];simp);have HC:=I' hc;clear hc;obtain ⟨r,hr0⟩:∃r,pK (CG nm) x.au = r:=⟨_,rfl⟩;have HI:=I' hr0;clear hr0;go_enter Tryz.func52,Tryz.ntmps52;go_wp2_with fail
  refine (BO x _ _ _ (aZ h atT) HW.out).mono ?_;rintro e w1 ⟨cs1,G1,rfl,jX,hb1⟩;have hR1:=jX.rd;obtain ⟨dG,bV,xq,dS,dJ,Bz,hck,hG1,oO,tq,wI,iV,gI,iW⟩:=aO hR1;subst hck;clear hG1 hR1;obtain ⟨hc1,hf1⟩:=ay hb1;have VQ:w.heap.size < w1.heap.size:=sq hb1.size;have hz1b:w.heap.size+1 < w1.heap.size:=sq hb1.size;have hlt1:=jX.lt;go_wp2_with fail
  refine (qM x _ _ _ (aZ h atT) HW.out).mono ?_;rw [HC.out];rintro e w2 ⟨rfl,hb2⟩;obtain ⟨hc2,hf2⟩:=ay hb2;have VR:w.heap.size < w2.heap.size:=sq hb2.size;have hz2b:w.heap.size+1 < w2.heap.size:=sq hb2.size;have VT:w1.heap.size < w2.heap.size:=sq hb2.size;have hO2:Own w2 (w.heap.size+1+1) x [.slice dG x.hosts.length bV,.slice dS x.au.length dJ,.int .i64 x.next,.int .i64 x.weights.pack,.int .i64 x.weights.spread,.int .i64 x.weights.soft] G1:=((jX.mono S').alloc _).ext hb2;have RZ:=I' hO2;clear jX hO2 h;go_wp2_with fail
  try dsimp only
  iterate 60 (first | go_step | skip)
  refine bodyPost_ret (v:=.tuple #[.agg #[.slice dG x.hosts.length bV,.slice dS x.au.length dJ,.int .i64 x.next,.int .i64 x.weights.pack,.int .i64 x.weights.spread,.int .i64 x.weights.soft],.int .i64 1]) (by simp [results,Tryz.results52,go_sem, *]) rfl ?_;exact Zabn
 ·by_cases hng:pK (CG nm) x.au < 0
  ·have HF:=I' (show Ut x nm = (x,3) by unfold Ut;rw [hc,if_pos rfl,if_pos hng]);have HC:=I' hc;clear hc;obtain ⟨r,hr0⟩:∃r,pK (CG nm) x.au = r:=⟨_,rfl⟩;have HI:=I' hr0;rw [hr0] at hng;clear hr0;go_enter Tryz.func52,Tryz.ntmps52;go_wp2_with fail
   refine (BO x _ _ _ (aZ h atT) HW.out).mono ?_;rintro e w1 ⟨cs1,G1,rfl,jX,hb1⟩;have hR1:=jX.rd;obtain ⟨dG,bV,xq,dS,dJ,Bz,hck,hG1,oO,tq,wI,iV,gI,iW⟩:=aO hR1;subst hck;clear hG1 hR1;obtain ⟨hc1,hf1⟩:=ay hb1;have VQ:w.heap.size < w1.heap.size:=sq hb1.size;have hz1b:w.heap.size+1 < w1.heap.size:=sq hb1.size;have hlt1:=jX.lt;go_wp2_with fail
   refine (qM x _ _ _ (aZ h atT) HW.out).mono ?_;rw [HC.out];rintro e w2 ⟨rfl,hb2⟩;obtain ⟨hc2,hf2⟩:=ay hb2;have VR:w.heap.size < w2.heap.size:=sq hb2.size;have hz2b:w.heap.size+1 < w2.heap.size:=sq hb2.size;have VT:w1.heap.size < w2.heap.size:=sq hb2.size;go_wp2_with fail
   refine (aaj x _ _ nm _ (aZ h atT) Ji.out).mono ?_;rw [HI.out];rintro e w3 ⟨rfl,hb3⟩;obtain ⟨hc3,hf3⟩:=ay hb3;have adg:w.heap.size < w3.heap.size:=sq hb3.size;have hz3b:w.heap.size+1 < w3.heap.size:=sq hb3.size;have adh:w1.heap.size < w3.heap.size:=sq hb3.size;have hO2:Own w3 (w.heap.size+1+1) x [.slice dG x.hosts.length bV,.slice dS x.au.length dJ,.int .i64 x.next,.int .i64 x.weights.pack,.int .i64 x.weights.spread,.int .i64 x.weights.soft] G1:=(((jX.mono S').alloc _).ext hb2).ext hb3;have RZ:=I' hO2;clear jX hO2 h;go_wp2_with fail
   try dsimp only
   iterate 60 (first | go_step | skip)
   refine bodyPost_ret (v:=.tuple #[.agg #[.slice dG x.hosts.length bV,.slice dS x.au.length dJ,.int .i64 x.next,.int .i64 x.weights.pack,.int .i64 x.weights.spread,.int .i64 x.weights.soft],.int .i64 3]) (by simp [results,Tryz.results52,go_sem, *]) rfl ?_;exact Zabn
  ·obtain ⟨k,hk0⟩:∃k:Nat,pK (CG nm) x.au = k:=⟨(pK (CG nm) x.au).toNat,O'⟩;have hk:k < x.au.length:=O';have HF:=I' (show Ut x nm = (⟨x.hosts,x.au.eraseIdx k,x.next,x.weights⟩,0) by unfold Ut;rw [hc,if_pos rfl,if_neg O',hk0,Int.toNat_natCast]);have HC:=I' hc;clear hc;have HI:=I' hk0;clear hk0 hng;go_enter Tryz.func52,Tryz.ntmps52;go_wp2_with fail
   refine (BO x _ _ _ (aZ h atT) HW.out).mono ?_;rintro e w1 ⟨cs1,G1,rfl,jX,hb1⟩;have hR1:=jX.rd;obtain ⟨dG,bV,xq,dS,dJ,Bz,hck,hG1,oO,tq,wI,iV,gI,iW⟩:=aO hR1;subst hck;clear hG1 hR1;obtain ⟨hc1,hf1⟩:=ay hb1;have VQ:w.heap.size < w1.heap.size:=sq hb1.size;have hz1b:w.heap.size+1 < w1.heap.size:=sq hb1.size;have hlt1:=jX.lt;go_wp2_with fail
   refine (qM x _ _ _ (aZ h atT) HW.out).mono ?_;rw [HC.out];rintro e w2 ⟨rfl,hb2⟩;obtain ⟨hc2,hf2⟩:=ay hb2;have VR:w.heap.size < w2.heap.size:=sq hb2.size;have hz2b:w.heap.size+1 < w2.heap.size:=sq hb2.size;have VT:w1.heap.size < w2.heap.size:=sq hb2.size;go_wp2_with fail
   refine (aaj x _ _ nm _ (aZ h atT) Ji.out).mono ?_;rw [HI.out];rintro e w3 ⟨rfl,hb3⟩;obtain ⟨hc3,hf3⟩:=ay hb3;have adg:w.heap.size < w3.heap.size:=sq hb3.size;have hz3b:w.heap.size+1 < w3.heap.size:=sq hb3.size;have adh:w1.heap.size < w3.heap.size:=sq hb3.size;have hO2:Own w3 (w.heap.size+1+1) x [.slice dG x.hosts.length bV,.slice dS x.au.length dJ,.int .i64 x.next,.int .i64 x.weights.pack,.int .i64 x.weights.spread,.int .i64 x.weights.soft] G1:=(((jX.mono S').alloc _).ext hb2).ext hb3;obtain ⟨Gh,Gp,Xp,OL,hdis,hsh,hsp⟩:=hO2.parts;obtain ⟨b,o,ds,G3,rfl,o9,hbs,hcap,hmx,hdl,hone,hcell,X5,hG3⟩:=OL.amG hk;have hS:Dat.size Placed = 9:=rfl;rw [hS] at hdl X5;clear hS;have hg:∀y∈Gp,w.heap.size+1 < y∧y < w1.heap.size:=fun y hy=>⟨by have:=OL.base y hy;omega,hlt1 y (hsp y hy)⟩;have hbl:=hg b o9;have KB:oG w3 w1.heap.size [.slice dG x.hosts.length bV,.slice (some ⟨b,o,none⟩) x.au.length dJ,.int .i64 x.next,.int .i64 x.weights.pack,.int .i64 x.weights.spread,.int .i64 x.weights.soft]:=(((oG.new w1 [.slice dG x.hosts.length bV,.slice (some ⟨b,o,none⟩) x.au.length dJ,.int .i64 x.next,.int .i64 x.weights.pack,.int .i64 x.weights.spread,.int .i64 x.weights.soft] 29).ext hb2).ext hb3);have KR0:oG ((w.alloc (.cells ([.slice bG x.hosts.length bD,.slice dn x.au.length bW,.int .i64 x.next,.int .i64 x.weights.pack,.int .i64 x.weights.spread,.int .i64 x.weights.soft]:List Value).toArray 29)).alloc (.cells ([.slice none 0 0,.slice none 0 0,.int .i64 0,.int .i64 0,.int .i64 0,.int .i64 0]:List Value).toArray 29)) (w.heap.size+1) [.slice none 0 0,.slice none 0 0,.int .i64 0,.int .i64 0,.int .i64 0,.int .i64 0]:=(by have:=oG.new (w.alloc (.cells ([.slice bG x.hosts.length bD,.slice dn x.au.length bW,.int .i64 x.next,.int .i64 x.weights.pack,.int .i64 x.weights.spread,.int .i64 x.weights.soft]:List Value).toArray 29)) [.slice none 0 0,.slice none 0 0,.int .i64 0,.int .i64 0,.int .i64 0,.int .i64 0] 29;rw [World.size_alloc] at this;exact this);have KR:oG w3 (w.heap.size+1) [.slice none 0 0,.slice none 0 0,.int .i64 0,.int .i64 0,.int .i64 0,.int .i64 0]:=((((KR0.ext hb1).ext (ak (aj _) _)).ext hb2).ext hb3);have hB3:Below w.heap.size w w3:=atT;have HFG:=I' (show ∀y∈Gh++G3,y < w1.heap.size from fun y hy=>by rcases List.mem_append.1 hy with hy | hy;exact hlt1 y (hsh y hy);exact hlt1 y (hsp y (hG3 y hy)));have HDIS:=I' (show ∀y∈Gh,y∉G3 from fun y hy hy'=>hdis y hy (hG3 y hy'));have hl1:(ds.take (k * 9)).length = k * 9:=(by rw [List.length_take,hdl];omega);have hl2:(ds.drop ((k+1) * 9)).length = (x.au.length - (k+1)) * 9:=(by rw [List.length_drop,hdl];omega);have hk1:(k:Int)+1≤x.au.length:=O';have hkc:k≤dJ:=O';have hkc1:k+1≤dJ:=O';obtain ⟨A0,hA0,hsrc⟩:∃A0:Addr,(if dJ = k+1 then some (⟨b,o,none⟩:Addr) else some ⟨b,o+(k+1) * 9,none⟩) = some A0∧Hid (A0.block = b∧∀q u,(ds.drop ((k+1) * 9))[q]? = some u→w3.cell? (A0.add q) = some u):=by
    by_cases hc:dJ = k+1
    ·refine ⟨⟨b,o,none⟩,by simp [hc],rfl,fun q u hu=>?_⟩;have h0:(ds.drop ((k+1) * 9)).length = 0:=(by rw [hl2];omega);exact Zada
    ·refine ⟨⟨b,o+(k+1) * 9,none⟩,by simp [hc],rfl,fun q u hu=>?_⟩;rw [List.getElem?_drop] at hu;rw [Addr.add_lit,show o+(k+1) * 9+q = o+((k+1) * 9+q) by omega];exact hcell _ u hu
   have hw1:IntKind.i64.wrap ((k:Int)+1) = (k:Int)+1:=IntWalk.i64_in _ O';have hw2:((k:Int)+1).toNat = k+1:=O';have x0:(fun w'=>w'.cell? ⟨w1.heap.size,1,none⟩ = some (.slice (some ⟨b,o,none⟩) x.au.length dJ)) w3.drew:=(KB.ext (aA (aj _))).cell (i:=1) (u:=.slice (some ⟨b,o,none⟩) x.au.length dJ) rfl;have asc:=I' hcell;have HOC:=I' X5;have HONE:=I' hone;have HOH:=I' Xp;clear hcell X5 hone Xp hdl jX hO2 OL hdis hsh hsp hG3;go_wp2_with fail
   refine uq (fun w'=>w'.cell? ⟨w1.heap.size,1,none⟩ = some (.slice (some ⟨b,o,none⟩) x.au.length dJ)) [1,2,3,4,6,7,8,9,10] [0,5,11] [12,13] U' U' (fun _ _ d _ _ h=>by cases d <;> exact h) x0 ?_;clear x0;simp only [pick,List.getElem?_cons_succ,List.getElem?_cons_zero]
   iterate 9
    (apply dR
     case hy =>refine Or.inl ⟨rfl,fun wq hq=>?_⟩;go_simp;try rfl
     simp only [Act.put,pz])
   refine fE ?_;have hbd:Below w3.heap.size w3 (w3.alloc (.cells #[] 53)).drew:=aA (ak (aj _) _);have KBd:=KB.ext hbd;have KRd:=KR.ext hbd;have hownd:(w3.alloc (.cells #[] 53)).drew.ownsRow w3.heap.size 53 9 (.slice (some ⟨w3.heap.size,0,none⟩) 0 0) 0 []:=OU w3 53 9 w3.heap.size rfl;refine iK rfl (fun K hK=>?_);go_simp;refine hK _ _ (KBd.cell (i:=1) (u:=.slice (some ⟨b,o,none⟩) x.au.length dJ) rfl) ?_;try simp only [Act.put,pz]
   clear hK K;have hsz:(w3.alloc (.cells #[] 53)).drew.heap.size = w3.heap.size+1:=S';generalize (w3.alloc (.cells #[] 53)).drew = wd at *;refine iK rfl (fun K hK=>?_)
   refine RD YH _ _ J' wd w3.heap.size _ 0 [] hownd J' ⟨b,o,none⟩ k dJ (ds.take (k * 9)) J' hl1 (fun q u hu=>by
    rw [List.getElem?_take] at hu;split at hu
    ·rw [Addr.add_lit];exact (hbd.cell (p:=⟨b,o+q,none⟩) atX).trans (asc.out q u hu)
    ·cases hu) (fun u hu=>HONE.out u (List.mem_of_mem_take hu)) O' O' O' ?_
   intro v5 w5 hown5 hg5 aaQ;have hr5:∀q,(Value.slice (some ⟨w3.heap.size,0,none⟩) 0 0).ownBlock = some q→q = w3.heap.size:=fun q hq=>by simp [Value.ownBlock] at hq;omega
   have KB5:=KBd.grown hg5 (fun q hq=>by have:=hr5 q hq;omega);have KR5:=KRd.grown hg5 (fun q hq=>by have:=hr5 q hq;omega);have ag0:∀y,y < w3.heap.size→w5.heap[y]? = w3.heap[y]?:=fun y hy=>(hg5.block y O' (fun e=>by have:=hr5 y e.symm;omega)).trans (hbd.block y hy);have hv5:∀q,v5.ownBlock = some q→w3.heap.size≤q:=fun q hq=>(hown5.lt q hq).1;refine hK _ _ (KB5.cell (i:=1) (u:=.slice (some ⟨b,o,none⟩) x.au.length dJ) rfl) ?_;try simp only [Act.put,pz]
   clear hK K;refine iK rfl (fun K hK=>?_)
   refine RD YH _ _ J' w5 w3.heap.size v5 _ _ hown5 J' A0 (x.au.length - (k+1)) (dJ - (k+1)) (ds.drop ((k+1) * 9)) J' hl2 (fun q u hu=>by
    refine (World.cell?_of_block ?_).trans (hsrc.out.2 q u hu);refine ag0 _ ?_;rw [show (A0.add q).block = A0.block from by unfold Addr.add;split <;> rfl,hsrc.out.1]
    omega) (fun u hu=>HONE.out u (List.mem_of_mem_drop hu)) O' O' (by have:=hg5.size;omega) ?_
   intro v7 w7 nK Ua ab7;have hz7:=Ua.size;have Es:=hg5.size;have KB7:=KB5.grown Ua (fun q hq=>by have:=hv5 q hq;omega);have KR7:=KR5.grown Ua (fun q hq=>by have:=hv5 q hq;omega);have ab8:∀y,y < w3.heap.size→w7.heap[y]? = w3.heap[y]?:=fun y hy=>(Ua.block y O' (fun e=>by have:=hv5 y e.symm;omega)).trans (ag0 y hy);rw [show 0+k+(x.au.length - (k+1)) = x.au.length - 1 by omega,List.nil_append] at nK;obtain ⟨A7,c7,hv7⟩:=mY nK;subst hv7;refine hK _ _ (KB7.cell (i:=1) (u:=.slice (some ⟨b,o,none⟩) x.au.length dJ) rfl) ?_;try simp only [Act.put,pz]
   clear hK K;have hle:(x.au.eraseIdx k).length = x.au.length - 1:=(by rw [List.length_eraseIdx,if_pos hk]);have hoc7:aY w7 (w.heap.size+1+1) (x.au.eraseIdx k) (ds.take (k * 9)++ds.drop ((k+1) * 9)) G3:=HOC.out.keep (fun y hy=>ab8 y (by have:=HFG.out y (by simp [hy]);omega)) O';obtain ⟨A8,c8,G8,hv8,sV,hG8⟩:=Own.apw (xs:=x.au.eraseIdx k) (by rw [hle];exact vP nK O') hoc7 (fun g hg' hm=>by have:=(nK.lt g hg').1;have:=HFG.out g (by simp [hm]);omega);rw [hle] at hv8 sV;simp only [Value.slice.injEq,true_and] at hv8;obtain ⟨rfl,rfl⟩:=hv8;have hoh7:Own w7 (w.heap.size+1+1) x.hosts [.slice dG x.hosts.length bV] Gh:=HOH.out.keep (fun y hy=>ab8 y (by have:=HFG.out y (by simp [hy]);omega)) O'
   have HOW:=I' (Own.whole hoh7 sV (fun y hy hy'=>by
    rcases hG8 y hy' with h9 | h9
    ·exact HDIS.out y hy h9
    ·have:=(nK.lt y h9).1;have:=HFG.out y (by simp [hy]);omega) wI iV gI iW)
   have HGN:=I' (show ∀y∈Gh++G8,y≠w1.heap.size from fun y hy e=>by
    rcases List.mem_append.1 hy with hy | hy
    ·have:=HFG.out y (by simp [hy]);omega
    ·rcases hG8 y hy with h9 | h9
     ·have:=HFG.out y (by simp [h9]);omega
     ·have:=(nK.lt y h9).1;omega)
   have WE:Below w.heap.size w w7:=hB3.trans ⟨Ua.os.trans (hg5.os.trans hbd.os),Ua.tape.trans (hg5.tape.trans hbd.tape),Ua.output.trans (hg5.output.trans hbd.output),O',fun y hy=>ab8 y O'⟩;have m0:=KB7.cell (i:=0) (u:=.slice dG x.hosts.length bV) rfl;have m1:=KB7.cell (i:=1) (u:=.slice (some ⟨b,o,none⟩) x.au.length dJ) rfl;have m2:=KB7.cell (i:=2) (u:=.int .i64 x.next) rfl;have m3:=KB7.cell (i:=3) (u:=.int .i64 x.weights.pack) rfl;have m4:=KB7.cell (i:=4) (u:=.int .i64 x.weights.spread) rfl;have m5:=KB7.cell (i:=5) (u:=.int .i64 x.weights.soft) rfl;have mf:=KB7.fz;have ml:=KB7.lt;have r0:=KR7.cell (i:=0) (u:=.slice none 0 0) rfl;have r1:=KR7.cell (i:=1) (u:=.slice none 0 0) rfl;have r2:=KR7.cell (i:=2) (u:=.int .i64 0) rfl;have r3:=KR7.cell (i:=3) (u:=.int .i64 0) rfl;have r4:=KR7.cell (i:=4) (u:=.int .i64 0) rfl;have r5:=KR7.cell (i:=5) (u:=.int .i64 0) rfl;have rf:=KR7.fz;have rl:=KR7.lt;clear hc1 hc2 hc3 hf1 hf2 hf3 KB KR KR0 KBd KRd KB5 KR5 KB7 KR7 hownd hown5 nK hg5 Ua aaQ ab7 ag0 ab8 hr5 hv5 hoc7 sV hoh7 hG8 hb1 hb2 hb3 hbd hg h hw1 hw2 hA0;refine yG ?_;go_wp2_with fail
   try dsimp only
   iterate 60 (first | go_step | skip)
   refine bodyPost_ret (v:=.tuple #[.agg #[.slice dG x.hosts.length bV,.slice A7 (x.au.length - 1) c7,.int .i64 x.next,.int .i64 x.weights.pack,.int .i64 x.weights.spread,.int .i64 x.weights.soft],.int .i64 0]) (by simp [results,Tryz.results52,go_sem, *]) rfl ?_;rw [HF.out]
   first
    | refine ⟨[.slice dG x.hosts.length bV,.slice A7 (x.au.length - 1) c7,.int .i64 x.next,.int .i64 x.weights.pack,.int .i64 x.weights.spread,.int .i64 x.weights.soft],Gh++G8,rfl,?_,?_⟩
    | refine ⟨[.slice dG x.hosts.length bV,.slice A7 (x.au.length - 1) c7,.int .i64 x.next,.int .i64 x.weights.pack,.int .i64 x.weights.spread,.int .i64 x.weights.soft],rfl,⟨Gh++G8,?_⟩,?_⟩
   ·try dsimp only
    refine Own.mono (B:=w.heap.size+1+1) ?_ O';exact (by repeat (first | with_reducible exact HOW.out | with_reducible refine Own.setCell ?_ atX _ | with_reducible refine ownNeK ?_ HGN.out))
   ·exact aui
end Go.Proofs.YtkjeocdobidadaaGreat
