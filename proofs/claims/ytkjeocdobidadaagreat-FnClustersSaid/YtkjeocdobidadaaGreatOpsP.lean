/- DeletePod, of the program. No condition. -/
import Derived.Test.YtkjeocdobidadaaGreatCopyS
import Derived.Deep.RegionLaw
import Derived.Deep.MidRow
import Derived.Test.YtkjeocdobidadaaGreatAt
import Derived.Test.YtkjeocdobidadaaGreatClusterI
import Derived.Test.YtkjeocdobidadaaGreatLabAt
import Derived.Test.YtkjeocdobidadaaGreatMark
import Derived.Test.YtkjeocdobidadaaGreatData
import Derived.Test.YtkjeocdobidadaaGreatClusterS
import Derived.Test.YtkjeocdobidadaaGreatBest
namespace Go.Proofs.YtkjeocdobidadaaGreat
open Go.ChangeShapes Go.WideShapes Go.ChangeAt Go.RowKit
set_option linter.unusedVariables false
set_option linter.unusedSimpArgs false
set_option maxHeartbeats 4000000
set_option maxRecDepth 100000
theorem Own.join {α β:Type} [Dat α] [Dat β] {w:World} {B:Nat} {x:α} {y:β} {c1 c2:List Value} {F1 F2:List Nat} (h1:Own w B x c1 F1) (h2:Own w B y c2 F2) (hd:∀b∈F1,b∉F2):Own w B (x,y) (c1++c2) (F1++F2):=by
 exact Zab7
theorem Own.parts {w:World} {B:Nat} {x:aU} {Ah Ap:Option Addr} {nh ch np cp:Nat} {n p q f:Int} {G:List Nat} (h:Own w B x [.slice Ah nh ch,.slice Ap np cp,.int .i64 n,.int .i64 p,.int .i64 q,.int .i64 f] G) :
 ∃Gh Gp,Own w B x.hosts [.slice Ah nh ch] Gh∧Own w B x.au [.slice Ap np cp] Gp∧(∀y∈Gh,y∉Gp)∧(∀y∈Gh,y∈G)∧(∀y∈Gp,y∈G):=by
 obtain ⟨⟨c1,c2,F1,F2,e1,rfl,hh,d1,d2,G1,G2,e3,rfl,hp,g1,g2,H1,H2,e5,e6,⟨e7,e8,hn⟩,hwt⟩,hnd,hb,hpl⟩:=h;obtain ⟨A,c,rfl,_⟩:=jB hh;obtain ⟨A2,c2',rfl,_⟩:=jB hp;subst e7 e5 e3;simp only [List.cons_append,List.nil_append,List.cons.injEq] at e1;obtain ⟨ea,eb,_⟩:=e1;rw [List.nodup_append,List.nodup_append] at hnd;refine ⟨F1,G1,⟨by rw [ea];exact hh,hnd.1,fun y hy=>hb y (by simp [hy]),fun y hy=>hpl y (by simp [hy])⟩,⟨by rw [eb];exact hp,hnd.2.1.1,fun y hy=>hb y (by simp [hy]),fun y hy=>hpl y (by simp [hy])⟩,fun y hy hy'=>hnd.2.2 y hy y (by simp [hy']) rfl,fun y hy=>by simp [hy],fun y hy=>by simp [hy]⟩
theorem Own.whole {w:World} {B:Nat} {H:List Host} {Q:List Placed} {Ah Ap:Option Addr} {nh ch np cp:Nat} {n p q f:Int} {Gh Gp:List Nat} (h:Own w B H [.slice Ah nh ch] Gh) (k:Own w B Q [.slice Ap np cp] Gp) (hd:∀y∈Gh,y∉Gp) (hn:I64 n) (hp:I64 p) (hq:I64 q) (hf:I64 f) :
 Own w B (⟨H,Q,n,⟨p,q,f⟩⟩:aU) [.slice Ah nh ch,.slice Ap np cp,.int .i64 n,.int .i64 p,.int .i64 q,.int .i64 f] (Gh++Gp):=by
 refine Own.up (B':=B) (fun x:aU=>(x.hosts,x.au,x.next,x.weights)) ?_ (Nat.le_refl _);have h5:Own w B (⟨p,q,f⟩:rZ) ([.int .i64 p]++([.int .i64 q]++[.int .i64 f])) []:=by exact Zacz
 have h6:=Own.cons (jL w n hn) h5;have h7:=Own.join h (Own.join k h6 (fun b _ hb=>by cases hb)) (fun b hb hb'=>hd b hb (by simpa using hb'));simpa using h7
def Ut (x:aU) (nm:ByteArray):aU × Int :=
 if iI x = true then (if pK (CG nm) x.au < 0 then (x,3) else (⟨x.hosts,x.au.eraseIdx (pK (CG nm) x.au).toNat,x.next,x.weights⟩,0)) else (x,1)
def QW (nm:ByteArray) (p:Placed):Placed:=if p.on.toList == nm.toList then ⟨p.aS,⟨#[]⟩,p.seq⟩ else p
def VP (nm:ByteArray) (k:Nat) (xs:List Placed):List Placed:=(xs.take k).map (QW nm)++xs.drop k
theorem agW (nm:ByteArray) (k:Nat) (xs:List Placed) (hk:k≤xs.length):(VP nm k xs).length = xs.length:=by unfold VP;rw [List.length_append,List.length_map,List.length_take,List.length_drop];omega
theorem ai0 (nm:ByteArray) (xs:List Placed):VP nm 0 xs = xs:=by simp [VP]
theorem amE (nm:ByteArray) (xs:List Placed):VP nm xs.length xs = xs.map (QW nm):=by simp [VP]
theorem agX {nm:ByteArray} {k:Nat} {xs:List Placed} (hk:k < xs.length) (h:k < (VP nm k xs).length):(VP nm k xs)[k] = xs[k]:=by
 have h1:((xs.take k).map (QW nm)).length = k:=by rw [List.length_map,List.length_take];omega
 simp only [VP];rw [List.getElem_append_right O'];simp [show min k xs.length = k from by omega]
theorem agY {nm:ByteArray} {k:Nat} {xs:List Placed} (hk:k < xs.length):(VP nm k xs).set k (QW nm xs[k]) = VP nm (k+1) xs:=by
 have h1:((xs.take k).map (QW nm)).length = k:=by rw [List.length_map,List.length_take];omega
 unfold VP;rw [List.set_append_right _ _ O',h1,Nat.sub_self,← List.getElem_cons_drop hk,List.set_cons_zero,List.take_succ_eq_append_getElem hk,List.map_append];simp
theorem ai1 {nm:ByteArray} {k:Nat} {xs:List Placed} (hk:k < xs.length) (h:QW nm xs[k] = xs[k]):VP nm (k+1) xs = VP nm k xs:=by
 rw [← agY hk,h];have h2:k < (VP nm k xs).length:=by rw [agW nm k xs O'];exact hk
 rw [← agX (nm:=nm) hk h2,List.set_getElem_self]
theorem Own.off {w:World} {B:Nat} {p:Placed} {ck:List Value} {F:List Nat} (h:Own w B p ck F):Own w B (⟨p.aS,⟨#[]⟩,p.seq⟩:Placed) (ck.set 7 (.string ⟨#[]⟩)) F:=by
 obtain ⟨⟨c1,c2,F1,F2,rfl,rfl,QS,c3,c4,F3,F4,rfl,rfl,⟨rfl,rfl,hon⟩,⟨rfl,rfl,Ue⟩⟩,hnd,hb,hpl⟩:=h;have hl:c1.length = 7:=Dat.len QS;have e:(c1++([Value.string p.on]++[Value.int .i64 p.seq])).set 7 (.string ⟨#[]⟩) = c1++([.string ⟨#[]⟩]++[.int .i64 p.seq]):=by rw [List.set_append_right _ _ O',hl];rfl
 rw [e];exact ⟨⟨c1,_,F1,_,rfl,rfl,QS,_,_,_,_,rfl,rfl,⟨rfl,rfl,(show (0:Nat)≤maxLen from Nat.zero_le _)⟩,⟨rfl,rfl,Ue⟩⟩,hnd,hb,hpl⟩
theorem akU {α:Type} [Dat α] {w:World} {B c i:Nat} {u:Value} {x:α} {cs:List Value} {F:List Nat} (h:Own w B x cs F) (hF:∀y∈F,y≠c):Own (w.setCell ⟨c,i,none⟩ u) B x cs F :=
 h.keep (fun y hy=>Below.heap_setCell _ _ _ _ avg) aua
def Ko (x:aU) (nm:ByteArray):aU × Int :=
 if iI x = true then (if pK (iM nm) x.hosts < 0 then (x,3) else (⟨x.hosts.eraseIdx (pK (iM nm) x.hosts).toNat,x.au.map (QW nm),x.next,x.weights⟩,0)) else (x,1)
def setW (x:aU) (u:rZ):aU × Int:=if iI x = true∧zL u.pack u.spread u.soft = true then (⟨x.hosts,x.au,x.next,u⟩,0) else (x,1)
theorem Own.ag1 {w:World} {B:Nat} {x:aU} {Ah Ap:Option Addr} {nh ch np cp:Nat} {n p q f:Int} {G:List Nat} (h:Own w B x [.slice Ah nh ch,.slice Ap np cp,.int .i64 n,.int .i64 p,.int .i64 q,.int .i64 f] G) (u:rZ) (h1:I64 u.pack) (h2:I64 u.spread) (h3:I64 u.soft) :
 Own w B (⟨x.hosts,x.au,x.next,u⟩:aU) [.slice Ah nh ch,.slice Ap np cp,.int .i64 n,.int .i64 u.pack,.int .i64 u.spread,.int .i64 u.soft] G:=by
 obtain ⟨⟨c1,c2,F1,F2,e1,e2,hh,d1,d2,G1,G2,e3,e4,hp,g1,g2,H1,H2,e5,e6,⟨e7,e8,hn⟩,hwt⟩,hnd,hb,hpl⟩:=h;obtain ⟨A,c,rfl,_⟩:=jB hh;obtain ⟨A2,c2',rfl,_⟩:=jB hp;subst e7 e5 e3;simp only [List.cons_append,List.nil_append,List.cons.injEq] at e1;obtain ⟨ea,eb,ec,_⟩:=e1;refine ⟨⟨_,[.slice Ap np cp,.int .i64 n,.int .i64 u.pack,.int .i64 u.spread,.int .i64 u.soft],F1,F2,(by rw [ea];rfl),e2,hh,_,[.int .i64 n,.int .i64 u.pack,.int .i64 u.spread,.int .i64 u.soft],G1,G2,(by rw [eb];rfl),e4,hp,_,[.int .i64 u.pack,.int .i64 u.spread,.int .i64 u.soft],H1,H2,(by rw [ec];rfl),e6,⟨rfl,e8,hn⟩,?_⟩,hnd,hb,hpl⟩;obtain ⟨rfl,hF,_⟩:=mg hwt;rw [hF];exact Zj w u h1 h2 h3
theorem aeu (x:aU) (cs:List Value) (F:List Nat) (u:rZ) (us:List Value) (Fu:List Nat) (w:World) (h:rd w x cs F) (h':rd w u us Fu) (hw:(x.wt:Int)≤1048576) :
 Calls Tryz.prog 55 #[.agg cs.toArray,.agg us.toArray] w fun e w'=>∃ds G,e = .returned (.tuple #[.agg ds.toArray,.int .i64 (setW x u).2])∧Own w' w.heap.size (setW x u).1 ds G∧Below w.heap.size w w':=by
 have HW:=I' hw;clear hw;have hr:=h;have hr':=h';obtain ⟨bG,bD,fQ,dn,bW,jg,hck,qp,bQ,dM,hnext,aV,aP,aW⟩:=aO hr;subst hck;obtain ⟨hck,hG0,Sr,Jm,Sv⟩:=mg hr';subst hck;clear qp hG0 hr hr';cases hc:iI x <;> cases hwt:zL u.pack u.spread u.soft
 ·exact Zabc
 ·exact Zabc
 ·have HF:=I' (show setW x u = (x,1) by unfold setW;rw [hc,hwt];simp);have HC:=I' hc;have Du:=I' hwt;clear hc hwt;go_enter Tryz.func55,Tryz.ntmps55;go_wp2_with fail
  refine (BO x _ _ _ (aZ h atT) HW.out).mono ?_;rintro e w1 ⟨cs1,G1,rfl,jX,hb1⟩;have hR1:=jX.rd;obtain ⟨dG,bV,xq,dS,dJ,Bz,hck,hG1,oO,tq,wI,iV,gI,iW⟩:=aO hR1;subst hck;clear hG1 hR1;obtain ⟨hc1,hf1⟩:=ay hb1;have VQ:w.heap.size < w1.heap.size:=sq hb1.size;have hz1b:w.heap.size+1 < w1.heap.size:=sq hb1.size;have akV:w.heap.size+1+1 < w1.heap.size:=sq hb1.size;have hlt1:=jX.lt;go_wp2_with fail
  refine (qM x _ _ _ (aZ h atT) HW.out).mono ?_;rw [HC.out];rintro e w2 ⟨rfl,hb2⟩;obtain ⟨hc2,hf2⟩:=ay hb2;have VR:w.heap.size < w2.heap.size:=sq hb2.size;have hz2b:w.heap.size+1 < w2.heap.size:=sq hb2.size;have aoy:w.heap.size+1+1 < w2.heap.size:=sq hb2.size;have VT:w1.heap.size < w2.heap.size:=sq hb2.size;go_wp2_with fail
  refine (pW u.pack u.spread u.soft _).mono ?_;rw [Du.out];rintro e w3 ⟨rfl,hb3⟩;obtain ⟨hc3,hf3⟩:=ay hb3;have adg:w.heap.size < w3.heap.size:=sq hb3.size;have hz3b:w.heap.size+1 < w3.heap.size:=sq hb3.size;have hz3c:w.heap.size+1+1 < w3.heap.size:=sq hb3.size;have adh:w1.heap.size < w3.heap.size:=sq hb3.size;have hO2:Own w3 (w.heap.size+1+1+1) x [.slice dG x.hosts.length bV,.slice dS x.au.length dJ,.int .i64 x.next,.int .i64 x.weights.pack,.int .i64 x.weights.spread,.int .i64 x.weights.soft] G1:=(((jX.mono S').alloc _).ext hb2).ext hb3;exact Zael
 ·have HF:=I' (show setW x u = (⟨x.hosts,x.au,x.next,u⟩,0) by unfold setW;rw [hc,hwt];simp);have HC:=I' hc;have Du:=I' hwt;clear hc hwt;go_enter Tryz.func55,Tryz.ntmps55;go_wp2_with fail
  refine (BO x _ _ _ (aZ h atT) HW.out).mono ?_;rintro e w1 ⟨cs1,G1,rfl,jX,hb1⟩;have hR1:=jX.rd;obtain ⟨dG,bV,xq,dS,dJ,Bz,hck,hG1,oO,tq,wI,iV,gI,iW⟩:=aO hR1;subst hck;clear hG1 hR1;obtain ⟨hc1,hf1⟩:=ay hb1;have VQ:w.heap.size < w1.heap.size:=sq hb1.size;have hz1b:w.heap.size+1 < w1.heap.size:=sq hb1.size;have akV:w.heap.size+1+1 < w1.heap.size:=sq hb1.size;have hlt1:=jX.lt;go_wp2_with fail
  refine (qM x _ _ _ (aZ h atT) HW.out).mono ?_;rw [HC.out];rintro e w2 ⟨rfl,hb2⟩;obtain ⟨hc2,hf2⟩:=ay hb2;have VR:w.heap.size < w2.heap.size:=sq hb2.size;have hz2b:w.heap.size+1 < w2.heap.size:=sq hb2.size;have aoy:w.heap.size+1+1 < w2.heap.size:=sq hb2.size;have VT:w1.heap.size < w2.heap.size:=sq hb2.size;go_wp2_with fail
  refine (pW u.pack u.spread u.soft _).mono ?_;rw [Du.out];rintro e w3 ⟨rfl,hb3⟩;obtain ⟨hc3,hf3⟩:=ay hb3;have adg:w.heap.size < w3.heap.size:=sq hb3.size;have hz3b:w.heap.size+1 < w3.heap.size:=sq hb3.size;have hz3c:w.heap.size+1+1 < w3.heap.size:=sq hb3.size;have adh:w1.heap.size < w3.heap.size:=sq hb3.size;have hO2:Own w3 (w.heap.size+1+1+1) x [.slice dG x.hosts.length bV,.slice dS x.au.length dJ,.int .i64 x.next,.int .i64 x.weights.pack,.int .i64 x.weights.spread,.int .i64 x.weights.soft] G1:=(((jX.mono S').alloc _).ext hb2).ext hb3;have RZ:=I' hO2;clear jX hO2 h h';go_wp2_with fail
  try dsimp only
  iterate 60 (first | go_step | skip)
  refine bodyPost_ret (v:=.tuple #[.agg #[.slice dG x.hosts.length bV,.slice dS x.au.length dJ,.int .i64 x.next,.int .i64 u.pack,.int .i64 u.spread,.int .i64 u.soft],.int .i64 0]) (by simp [results,Tryz.results55,go_sem, *]) rfl ?_;rw [HF.out]
  first
   | refine ⟨[.slice dG x.hosts.length bV,.slice dS x.au.length dJ,.int .i64 x.next,.int .i64 u.pack,.int .i64 u.spread,.int .i64 u.soft],G1,rfl,?_,?_⟩
   | refine ⟨[.slice dG x.hosts.length bV,.slice dS x.au.length dJ,.int .i64 x.next,.int .i64 u.pack,.int .i64 u.spread,.int .i64 u.soft],rfl,⟨G1,?_⟩,?_⟩
  ·try dsimp only
   refine Own.mono (B:=w.heap.size+1+1+1) ?_ O';exact (by repeat (first | with_reducible exact (RZ.out.ag1 u Sr Jm Sv) | with_reducible refine Own.setCell ?_ atX _ | with_reducible refine OC ?_ (fun y hy=>hlt1 y hy)))
  ·exact aui
theorem delP_good {x:aU} (G:Good x) (nm:ByteArray):Good (Ut x nm).1:=by
 unfold Ut;split
 ·split
  ·exact G
  ·exact del_good G _
 ·exact G
theorem onL_off {nm nm':ByteArray} (h:nm'≠nm):∀xs:List Placed,F7 nm' (xs.map (QW nm)) = F7 nm' xs
 | []=>rfl
 | p :: xs=>by
   have ih:=onL_off h xs;rw [List.map_cons];by_cases hp:p.on = nm
   ·have h1:onP nm' (QW nm p) = false:=onP_not (.inl (by unfold QW;rw [if_pos (by rw [hp];simp)]));have h2:onP nm' p = false:=onP_not (.inr (fun e=>h (e.symm.trans hp)));rw [onL_consN h1,onL_consN h2,ih]
   ·have h1:QW nm p = p:=(by unfold QW;rw [if_neg (fun e=>hp (bytes_eq (by simpa using e)))]);rw [h1];cases h2:onP nm' p with
    | false=>rw [onL_consN h2,onL_consN h2,ih]
    | true=>rw [onL_consY h2,onL_consY h2,ih]
theorem offP_pod (nm:ByteArray) (p:Placed):(QW nm p).aS = p.aS:=by unfold QW;split <;> rfl
theorem offP_seq (nm:ByteArray) (p:Placed):(QW nm p).seq = p.seq:=by unfold QW;split <;> rfl
theorem drop_good {x:aU} (G:Good x) {nm:ByteArray} {k:Nat} (hk:pK (iM nm) x.hosts = k):Good ⟨x.hosts.eraseIdx k,x.au.map (QW nm),x.next,x.weights⟩:=by
 obtain ⟨hkl,hkn,_⟩:=idxI_at hk;rw [hostatP_iff] at hkn;have hs:(x.hosts.eraseIdx k).Sublist x.hosts:=List.eraseIdx_sublist ..;have hm:∀h∈x.hosts.eraseIdx k,h.name≠nm:=by intro h hh;obtain ⟨i,hi,hne,rfl⟩:=List.mem_eraseIdx_iff_getElem.1 hh;rw [← hkn];exact names_ne G.hs _ _ O'
 have hin:∀h∈x.hosts,h.name≠nm→h∈x.hosts.eraseIdx k:=by intro h hh hn;obtain ⟨i,hi,rfl⟩:=List.getElem_of_mem hh;refine List.mem_eraseIdx_iff_getElem.2 ⟨i,hi,fun e=>?_,rfl⟩;subst e;exact hn hkn
 refine ⟨Nat.le_trans hs.length_le G.h8,by rw [List.length_map];exact G.p12,G.n1,G.n2,G.wt,fun h hh=>G.hok h (hs.subset hh),fun h hh=>(G.hin h (hs.subset hh)).same (onL_off (hm h hh) _),G.hs.sublist hs,fun p hp=>?_,fun p hp=>?_,fun p hp=>?_,?_,?_⟩
 ·obtain ⟨q,hq,rfl⟩:=List.mem_map.1 hp;rw [offP_pod];exact G.pok q hq
 ·obtain ⟨q,hq,rfl⟩:=List.mem_map.1 hp;rw [offP_seq];exact G.pseq q hq
 ·obtain ⟨q,hq,rfl⟩:=List.mem_map.1 hp;by_cases he:q.on = nm
  ·exact .inl (by unfold QW;rw [if_pos (by rw [he];simp)])
  ·have h1:QW nm q = q:=(by unfold QW;rw [if_neg (fun e=>he (bytes_eq (by simpa using e)))]);rw [h1];rcases G.pon q hq with h2 | ⟨g,hg,h2⟩
   ·exact .inl h2
   ·exact .inr ⟨g,hin g hg (fun e=>he (h2.symm.trans e)),h2⟩
 ·show (x.au.map (QW nm)).Pairwise fun a b=>dw a b = true;rw [List.pairwise_map];exact G.ps.imp (fun {a b} h=>by unfold dw at *;rw [offP_pod,offP_pod];exact h)
 ·show (x.au.map (QW nm)).Pairwise fun a b=>a.seq≠b.seq;rw [List.pairwise_map];exact G.pf.imp (fun {a b} h=>by rw [offP_seq,offP_seq];exact h)
theorem dropH_good {x:aU} (G:Good x) (nm:ByteArray):Good (Ko x nm).1:=by
 unfold Ko;split
 ·split
  ·exact G
  ·rename_i h;exact drop_good G (idxI_toNat O')
 ·exact G
theorem setW_good {x:aU} (G:Good x) (u:rZ):Good (setW x u).1:=by
 unfold setW;split
 ·rename_i h;exact ⟨G.h8,G.p12,G.n1,G.n2,h.2,G.hok,G.hin,G.hs,G.pok,G.pseq,G.pon,G.ps,G.pf⟩
 ·exact G
theorem mem_ins1 {β:Type} {lt:β→β→Bool} {y z:β} : ∀{l:List β},z∈OM lt y l→z = y∨z∈l
 | [],h=>by simp only [OM,List.mem_singleton] at h;exact .inl h
 | x :: l,h=>by
   unfold OM at h;split at h
   ·simpa using h
   ·rcases List.mem_cons.1 h with rfl | h
    ·exact .inr (List.mem_cons_self ..)
    ·rcases mem_ins1 h with h | h
     ·exact .inl h
     ·exact .inr (List.mem_cons_of_mem _ h)
theorem mem_srt {β:Type} {lt:β→β→Bool} {z:β} : ∀{ys acc:List β},z∈sortB lt acc ys→z∈acc∨z∈ys
 | [],acc,h=>.inl h
 | y :: ys,acc,h=>by
   rcases mem_srt (ys:=ys) (acc:=OM lt y acc) h with h | h
   ·rcases mem_ins1 h with rfl | h
    ·exact .inr (List.mem_cons_self ..)
    ·exact .inl h
   ·exact .inr (List.mem_cons_of_mem _ h)
theorem rank_mem {x:aU} {p:nI} {nm:ByteArray} (h:nm∈Jh x p):∃g∈x.hosts,g.name = nm∧oH nm x p = 0:=by
 unfold Jh at h;rcases mem_srt h with h | h
 ·cases h
 ·unfold Ar at h;obtain ⟨g,hg,rfl⟩:=List.mem_map.1 h;obtain ⟨h1,h2⟩:=List.mem_filter.1 hg;unfold al8 at h2;exact ⟨g,h1,rfl,by simpa using h2⟩
theorem best_mem {x:aU} {p:nI} (h:afg x p = true):∃g∈x.hosts,g.name = aff x p∧oH (aff x p) x p = 0:=by
 refine rank_mem ?_;unfold afg aff at *;cases e:Jh x p with
 | nil=>rw [e] at h;cases h
 | cons a l=>simp
theorem fitsR_of {a b c:Int} (h:Jo a b c = true):a+b≤c∧a+b≤9223372036854775807:=by
 unfold Jo at h;split at h
 ·rename_i s e;rw [decide_eq_true_eq] at h;unfold GX at e;split at e
  ·cases e
  ·cases e;omega
 ·cases h
theorem reason_room {x:aU} {nm:ByteArray} {p:nI} (h:oH nm x p = 0):∃g∈x.hosts,g.name = nm∧sumAt nI.cpu nm x.au+p.cpu≤g.cpu∧sumAt nI.cpu nm x.au+p.cpu≤9223372036854775807∧sumAt nI.mem nm x.au+p.mem≤g.mem∧sumAt nI.mem nm x.au+p.mem≤9223372036854775807∧((F7 nm x.au).length:Int) < g.slots:=by
 by_cases h1:pK (iM nm) x.hosts < 0
 ·unfold oH at h;rw [if_pos h1] at h;omega
 ·obtain ⟨k,hk⟩:∃k:Nat,pK (iM nm) x.hosts = k:=⟨_,idxI_toNat O'⟩;obtain ⟨hkl,hkn,_⟩:=idxI_at hk;cases e:vU (F7 nm x.au) with
  | none=>rw [abG e] at h;omega
  | some ab =>
    obtain ⟨a,b⟩:=ab;rw [afI hkl hk e] at h;obtain ⟨rfl,rfl,_,_⟩:=sumsR_of e;refine ⟨_,List.getElem_mem hkl,hostatP_iff.1 hkn,?_⟩;unfold Vm at h;split at h
    ·omega
    ·split at h
     ·omega
     ·split at h
      ·omega
      ·rename_i h3;split at h
       ·omega
       ·rename_i h4;split at h
        ·omega
        ·rename_i h5;have h3:=fitsR_of (by simpa using h3);have h4:=fitsR_of (by simpa using h4);omega
theorem set_split {α:Type} {xs:List α} {k:Nat} (hk:k < xs.length) (v:α):xs.set k v = xs.take k++v :: xs.drop (k+1):=by
 rw [List.set_eq_take_append_cons_drop,if_pos hk]
theorem self_split {α:Type} {xs:List α} {k:Nat} (hk:k < xs.length):xs = xs.take k++xs[k] :: xs.drop (k+1):=by
 rw [← set_split hk xs[k],List.set_getElem_self]
theorem map_set_same {α β:Type} (f:α→β) {xs:List α} {k:Nat} (hk:k < xs.length) {v:α} (h:f v = f xs[k]):(xs.set k v).map f = xs.map f:=by
 have e:f xs[k] = (xs.map f)[k]'(by rw [List.length_map];exact hk):=by simp
 rw [List.map_set,h,e,List.set_getElem_self]
theorem onL_setY {xs:List Placed} {k:Nat} (hk:k < xs.length) {v:Placed} {nm:ByteArray} (h0:xs[k].on = ⟨#[]⟩) (h1:onP nm v = true) (hp:v.aS = xs[k].aS) (f:nI→Int):sumAt f nm (xs.set k v) = sumAt f nm xs+f v.aS∧(F7 nm (xs.set k v)).length = (F7 nm xs).length+1:=by
 have e1:F7 nm xs = F7 nm (xs.take k)++F7 nm (xs.drop (k+1)):=by
  conv=>lhs;rw [self_split hk]
  rw [onL_app,onL_consN (onP_not (.inl h0))]
 have e2:F7 nm (xs.set k v) = F7 nm (xs.take k)++v.aS :: F7 nm (xs.drop (k+1)):=by rw [set_split hk,onL_app,onL_consY h1]
 unfold sumAt;rw [e1,e2];simp only [List.map_append,List.map_cons,List.sum_append,List.sum_cons,List.length_append,List.length_cons];omega
theorem onL_setN {xs:List Placed} {k:Nat} (hk:k < xs.length) {v:Placed} {nm:ByteArray} (h0:xs[k].on = ⟨#[]⟩) (h1:onP nm v = false):F7 nm (xs.set k v) = F7 nm xs:=by
 conv=>rhs;rw [self_split hk]
 rw [set_split hk,onL_app,onL_app,onL_consN h1,onL_consN (onP_not (.inl h0))]
theorem place_good {x:aU} (G:Good x) {k:Nat} (hk:k < x.au.length) {nm:ByteArray} (ho:x.au[k].on = ⟨#[]⟩) (hr:oH nm x x.au[k].aS = 0):Good ⟨x.hosts,x.au.set k ⟨x.au[k].aS,nm,x.au[k].seq⟩,x.next,x.weights⟩:=by
 obtain ⟨g,hg,hgn,r1,r2,r3,r4,r5⟩:=reason_room hr;have hne:=nameR_ne (hostR_name (G.hok g hg));have hm:∀p∈x.au.set k ⟨x.au[k].aS,nm,x.au[k].seq⟩,p = ⟨x.au[k].aS,nm,x.au[k].seq⟩∨p∈x.au:=fun p hp=>by
  rcases List.mem_or_eq_of_mem_set hp with h | h
  ·exact .inr h
  ·exact .inl h
 refine ⟨G.h8,by rw [List.length_set];exact G.p12,G.n1,G.n2,G.wt,G.hok,fun h hh=>?_,G.hs,fun p hp=>?_,fun p hp=>?_,fun p hp=>?_,?_,?_⟩
 ·by_cases he:h.name = nm
  ·obtain rfl:h = g:=by
    obtain ⟨i,hi,rfl⟩:=List.getElem_of_mem hh;obtain ⟨j,hj,rfl⟩:=List.getElem_of_mem hg;by_cases hij:i = j
    ·subst hij;rfl
    ·exact absurd (he.trans hgn.symm) (names_ne G.hs hi hj hij)
   have hon:onP h.name (⟨x.au[k].aS,nm,x.au[k].seq⟩:Placed) = true:=onP_iff.2 ⟨hne,he.symm⟩;obtain ⟨e1,e3⟩:=onL_setY (nm:=h.name) hk (v:=⟨x.au[k].aS,nm,x.au[k].seq⟩) ho hon rfl nI.cpu;obtain ⟨e2,_⟩:=onL_setY (nm:=h.name) hk (v:=⟨x.au[k].aS,nm,x.au[k].seq⟩) ho hon rfl nI.mem;subst he;unfold Room;dsimp only at e1 e2 e3 ⊢;rw [e1,e2,e3];omega
  ·refine (G.hin h hh).same (onL_setN hk ho (onP_not (.inr ?_)));exact fun e=>he e.symm
 ·rcases hm p hp with rfl | hp
  ·exact G.pok x.au[k] (List.getElem_mem hk)
  ·exact G.pok p hp
 ·rcases hm p hp with rfl | hp
  ·exact G.pseq x.au[k] (List.getElem_mem hk)
  ·exact G.pseq p hp
 ·rcases hm p hp with rfl | hp
  ·exact .inr ⟨g,hg,hgn⟩
  ·exact G.pon p hp
 ·have h1:∀ys:List Placed,ys.Pairwise (fun a b=>dw a b = true)↔(ys.map fun p=>p.aS.name).Pairwise fun a b=>Op.bytesLess a.toList b.toList = true:=fun ys=>by rw [List.pairwise_map];rfl
  show (x.au.set k _).Pairwise fun a b=>dw a b = true;rw [h1,map_set_same (fun p:Placed=>p.aS.name) hk (v:=⟨x.au[k].aS,nm,x.au[k].seq⟩) rfl,← h1];exact G.ps
 ·have h1:∀ys:List Placed,ys.Pairwise (fun a b=>a.seq≠b.seq)↔(ys.map fun p=>p.seq).Pairwise fun a b=>a≠b:=fun ys=>by rw [List.pairwise_map]
  show (x.au.set k _).Pairwise fun a b=>a.seq≠b.seq;rw [h1,map_set_same (fun p:Placed=>p.seq) hk (v:=⟨x.au[k].aS,nm,x.au[k].seq⟩) rfl,← h1];exact G.pf
theorem placeP_good {x:aU} (G:Good x) (nm:ByteArray):Good (placeP x nm).1:=by
 have hc:=(good_iff x).2 G;by_cases h1:pK (CG nm) x.au < 0
 ·rw [placeP_none hc h1];exact G
 ·obtain ⟨k,hk⟩:∃k:Nat,pK (CG nm) x.au = k:=⟨_,idxI_toNat O'⟩;obtain ⟨hkl,hkn,_⟩:=idxI_at hk;rw [placeP_at hc hk hkl];unfold placeQ;split
  ·rename_i h2;have ho:x.au[k].on = ⟨#[]⟩:=by
    refine bytes_eq ?_;have h3:x.au[k].on.toList = []:=by rw [ByteArray.toList_eq];exact List.eq_nil_of_length_eq_zero (by simpa using h2)
    rw [h3,ByteArray.toList_eq]
   split
   ·rename_i h3;obtain ⟨g,hg,hgn,hr⟩:=best_mem h3;exact place_good G hkl ho hr
   ·exact G
  ·exact G
theorem placeNextP_good {x:aU} (G:Good x):Good (placeNextP x).1:=by
 unfold placeNextP;split
 ·split
  ·exact placeP_good G _
  ·exact G
 ·exact G
end Go.Proofs.YtkjeocdobidadaaGreat
