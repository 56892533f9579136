/- How many marks: Taint. No condition. -/
import Derived.Test.YtogkjlcoadhpgaaGreatMkBase
import Derived.Test.YtogkjlcoadhpgaaGreatMkLabel
import Derived.Test.YtogkjlcoadhpgaaGreatRowK
import Derived.Test.YtogkjlcoadhpgaaGreatMkPlaced
namespace Go.Proofs.YtogkjlcoadhpgaaGreat
open Go.ChangeShapes Go.WideShapes Go.ChangeAt Go.RowKit
set_option linter.unusedVariables false
set_option linter.unusedSimpArgs false
theorem adP (x:iU):kC x≤3 * (x.wt+1):=by
 simp only [kC,wtS,iU.wt] at *
 omega
end Go.Proofs.YtogkjlcoadhpgaaGreat
namespace Go.Proofs.YtogkjlcoadhpgaaGreat
open Go.ChangeShapes Go.WideShapes Go.ChangeAt Go.RowKit
set_option linter.unusedVariables false
set_option linter.unusedSimpArgs false
theorem Ry (x:Label):bC x≤2 * (x.wt+1):=by
 simp only [bC,wtS,Label.wt] at *
 omega
end Go.Proofs.YtogkjlcoadhpgaaGreat
namespace Go.Proofs.YtogkjlcoadhpgaaGreat
open Go.ChangeShapes Go.WideShapes Go.ChangeAt Go.RowKit
set_option linter.unusedVariables false
set_option linter.unusedSimpArgs false
theorem aov (x:Host):lI x≤4 * (x.wt+1):=by
 have h0:=FN Ry x.labels
 have h1:=FN adP x.aT
 simp only [lI,wtS,Host.wt] at *
 omega
end Go.Proofs.YtogkjlcoadhpgaaGreat
namespace Go.Proofs.YtogkjlcoadhpgaaGreat
open Go.ChangeShapes Go.WideShapes Go.ChangeAt Go.RowKit
set_option linter.unusedVariables false
set_option linter.unusedSimpArgs false
theorem Ku (x:iU) (k:Int):kC (D8 x k) = kC x:=by simp [kC,D8]
theorem ab1 (x:iU) (k:Int):D8 (D8 x k) k = D8 x k:=by simp [D8]
end Go.Proofs.YtogkjlcoadhpgaaGreat
namespace Go.Proofs.YtogkjlcoadhpgaaGreat
open Go.ChangeShapes Go.WideShapes Go.ChangeAt Go.RowKit
set_option linter.unusedVariables false
set_option linter.unusedSimpArgs false
theorem qC (x:Label) (k:Int):bC (xP x k) = bC x:=by simp [bC,xP]
theorem Iy (x:Label) (k:Int):xP (xP x k) k = xP x k:=by simp [xP]
end Go.Proofs.YtogkjlcoadhpgaaGreat
namespace Go.Proofs.YtogkjlcoadhpgaaGreat
open Go.ChangeShapes Go.WideShapes Go.ChangeAt Go.RowKit
set_option linter.unusedVariables false
set_option linter.unusedSimpArgs false
theorem aaL (x:Host) (k:Int):lI (JR x k) = lI x:=by simp [lI,JR,iY qC,iY Ku]
theorem amr (x:Host) (k:Int):JR (JR x k) k = JR x k:=by simp [JR,qg qC Iy,qg Ku ab1,iY qC,iY Ku]
end Go.Proofs.YtogkjlcoadhpgaaGreat
namespace Go.Proofs.YtogkjlcoadhpgaaGreat
open Go.ChangeShapes Go.WideShapes Go.ChangeAt Go.RowKit
set_option linter.unusedVariables false
set_option linter.unusedSimpArgs false
theorem WH (x:bH):bJ x≤4 * (x.wt+1):=by
 simp only [bJ,wtS,bH.wt] at *
 omega
end Go.Proofs.YtogkjlcoadhpgaaGreat
namespace Go.Proofs.YtogkjlcoadhpgaaGreat
open Go.ChangeShapes Go.WideShapes Go.ChangeAt Go.RowKit
set_option linter.unusedVariables false
set_option linter.unusedSimpArgs false
theorem DC (x:bH) (k:Int):bJ (rC x k) = bJ x:=by simp [bJ,rC]
theorem Uy (x:bH) (k:Int):rC (rC x k) k = rC x k:=by simp [rC]
end Go.Proofs.YtogkjlcoadhpgaaGreat
namespace Go.Proofs.YtogkjlcoadhpgaaGreat
open Go.ChangeShapes Go.WideShapes Go.ChangeAt Go.RowKit
set_option linter.unusedVariables false
set_option linter.unusedSimpArgs false
theorem agJ (x:Need):fZ x≤2 * (x.wt+1):=by
 have h0:=FN (f:=ByteArray.size) aiU x.values
 simp only [fZ,wtS,Need.wt] at *
 omega
end Go.Proofs.YtogkjlcoadhpgaaGreat
namespace Go.Proofs.YtogkjlcoadhpgaaGreat
open Go.ChangeShapes Go.WideShapes Go.ChangeAt Go.RowKit
set_option linter.unusedVariables false
set_option linter.unusedSimpArgs false
theorem MG (x:Need) (k:Int):fZ (H9 x k) = fZ x:=by simp [fZ,H9,iY mW]
theorem adQ (x:Need) (k:Int):H9 (H9 x k) k = H9 x k:=by simp [H9,qg mW Eh,iY mW]
end Go.Proofs.YtogkjlcoadhpgaaGreat
namespace Go.Proofs.YtogkjlcoadhpgaaGreat
open Go.ChangeShapes Go.WideShapes Go.ChangeAt Go.RowKit
set_option linter.unusedVariables false
set_option linter.unusedSimpArgs false
structure Roomy (α:Type) where
 l:List α
 t:TypeId
instance {α:Type} [Dat α]:Dat (Roomy α) where
 size:=1
 pos:=by omega
 rd w x cs F:=rd w x.l cs F∧((x.l = []∧cs = [.slice none 0 0])∨∃g c cur G,x.l≠[]∧cs = [.slice (some ⟨g,0,none⟩) x.l.length c]∧F = g :: G∧w.heap[g]? = some (.cells cur x.t (0,0))∧cur.size = c * Dat.size α)
 len h:=Dat.len h.1
 one h:=Dat.one h.1
 lt h:=Dat.lt h.1
 frame h hk hz:=⟨Dat.frame h.1 hk hz,by
  rcases h.2 with h2 | ⟨g,c,cur,G,h0,h1,h2,h3,h4⟩
  ·exact .inl h2
  ·exact .inr ⟨g,c,cur,G,h0,h1,h2,(hk g (by rw [h2];exact List.mem_cons_self ..)).trans h3,h4⟩⟩
section
variable {α:Type} [Dat α] {w:World} {B:Nat} {xs:List α} {ds:List Value} {F:List Nat}
theorem Own.list {cs:List Value} {t:TypeId} (h:Own w B (Roomy.mk xs t) cs F):Own w B xs cs F:=⟨h.rd.1,h.nodup,h.base,h.plain⟩
theorem Own.of_rowR {e:TypeId} {v:Value} (h0:w.ownsRow B e (Dat.size α) v xs.length ds) (h:aY w B xs ds F) (hne:∀g,v.ownBlock = some g→g∉F) (hv:xs.length = 0→v = .slice none 0 0):∃A c G,v = .slice A xs.length c∧Own w B (Roomy.mk xs e) [.slice A xs.length c] G:=by
 obtain ⟨A,c,G,hA,hO⟩:=Own.oJ h0 h hne
 refine ⟨A,c,G,hA,⟨⟨hO.rd,?_⟩,hO.nodup,hO.base,hO.plain⟩⟩
 by_cases hx:xs = []
 ·left
  have:=hv (by rw [hx];rfl)
  rw [this] at hA
  exact ⟨hx,by rw [hA]⟩
 ·right
  rcases h0.2 with ⟨_,hn⟩ | ⟨g,cap,cur,h1,h2,h3,h4,h5,h6,h7⟩
  ·exact absurd (List.eq_nil_of_length_eq_zero hn) hx
  ·rw [hA] at h1
   simp only [Value.slice.injEq,true_and] at h1
   obtain ⟨rfl,rfl⟩:=h1
   obtain ⟨A',c',G',ds',e0,_,_,_,h8⟩:=hO.rd
   simp only [List.cons.injEq,Value.slice.injEq,and_true,true_and] at e0
   obtain ⟨rfl,rfl⟩:=e0
   rcases h8 with ⟨h9,_⟩ | ⟨b,o,hb,rfl,_,_⟩
   ·exact absurd h9 hx
   ·simp only [Option.some.injEq,Addr.mk.injEq,and_true] at hb
    obtain ⟨rfl,rfl⟩:=hb
    exact ⟨g,c,cur,G',hx,rfl,rfl,h3,h6⟩
end
def RoomC (x:aU) (w:World) (cs:List Value):Prop:=∃Ah ch Ap cp Gh Gp rest,cs = .slice Ah x.hosts.length ch :: .slice Ap x.au.length cp :: rest∧Go.Proofs.YtogkjlcoadhpgaaGreat.Dat.rd w (Roomy.mk x.hosts 71) [.slice Ah x.hosts.length ch] Gh∧Go.Proofs.YtogkjlcoadhpgaaGreat.Dat.rd w (Roomy.mk x.au 78) [.slice Ap x.au.length cp] Gp
end Go.Proofs.YtogkjlcoadhpgaaGreat
namespace Go.Proofs.YtogkjlcoadhpgaaGreat
open Go.ChangeShapes Go.WideShapes Go.ChangeAt Go.RowKit
set_option linter.unusedVariables false
set_option linter.unusedSimpArgs false
theorem VJ (x:Placed) (k:Int):jh (CS x k) = jh x:=by simp [jh,CS,iY qC,iY MG,iY DC]
theorem aik (x:Placed) (k:Int):CS (CS x k) k = CS x k:=by simp [CS,qg qC Iy,qg MG adQ,qg DC Uy,iY qC,iY MG,iY DC]
end Go.Proofs.YtogkjlcoadhpgaaGreat
namespace Go.Proofs.YtogkjlcoadhpgaaGreat
open Go.ChangeShapes Go.WideShapes Go.ChangeAt Go.RowKit
set_option linter.unusedVariables false
set_option linter.unusedSimpArgs false
theorem akL (x:Placed):jh x≤6 * (x.wt+1):=by
 have h0:=FN Ry x.aS.labels
 have h1:=FN agJ x.aS.needs
 have h2:=FN WH x.aS.tolerances
 simp only [jh,wtS,Placed.wt,nI.wt] at *
 omega
end Go.Proofs.YtogkjlcoadhpgaaGreat
namespace Go.Proofs.YtogkjlcoadhpgaaGreat
open Go.ChangeShapes Go.WideShapes Go.ChangeAt Go.RowKit
set_option linter.unusedVariables false
set_option linter.unusedSimpArgs false
def qF (x:aU) (k:Int):aU:={ x with hosts:=EX JR lI x.hosts (k),au:=EX CS jh x.au (k+(cO lI x.hosts:Int)) }
def iw (x:aU):Nat:=cO lI x.hosts+cO jh x.au
theorem lN (x:aU) (k:Int):iw (qF x k) = iw x:=by simp [iw,qF,iY aaL,iY VJ]
theorem vG (x:aU) (k:Int):qF (qF x k) k = qF x k:=by simp [qF,qg aaL amr,qg VJ aik,iY aaL,iY VJ]
set_option maxRecDepth 100000 in
set_option maxHeartbeats 2000000 in
theorem oI (x:aU) (cs:List Value) (F:List Nat) (B:Nat) (k:Int) (w:World) (h:Own w B x cs F) (hk0:0≤k) (hk:k+iw x≤1073741823) :
 Calls Tryz.prog 9 #[.agg cs.toArray,.int .i64 k] w fun e w'=>e = .returned (.int .i64 (k+iw x))∧Own w' B (qF x k) cs F∧nN F w w':=by
 have hr:=h.rd
 obtain ⟨bG,bD,fQ,dn,bW,jg,hck,su,bQ,dM,hnext,aV,aP,aW⟩:=aO hr
 clear hr
 subst hck su
 simp only [iw] at hk ⊢
 push_cast at hk ⊢
 have hnd:=h.nodup
 simp only [List.nodup_append,List.mem_append] at hnd
 have akM:∀y∈fQ,y∉jg:=fun y ha hb=>hnd.2.2 y ha y hb rfl
 have akN:∀y∈jg,y∉fQ:=fun y hb ha=>hnd.2.2 y ha y hb rfl
 have Rz:Own w B x.hosts [.slice bG x.hosts.length bD] fQ:=⟨bQ,hnd.1,fun y hy=>h.base y (by simp [hy]),fun y hy=>h.plain y (by simp [hy])⟩
 have X3:Own w B x.au [.slice dn x.au.length bW] jg:=⟨dM,hnd.2.1,fun y hy=>h.base y (by simp [hy]),fun y hy=>h.plain y (by simp [hy])⟩
 go_enter Tryz.func9,Tryz.ntmps9
 go_wp2_with fail
 generalize GY:World.alloc w _ = wa
 have hUa:nN (fQ++(jg)) w wa:=GY ▸ nN.lq _ (ak (aj w) _)
 have hz:w.heap.size < wa.heap.size:=by rw [← GY];simp
 replace Rz:Own wa B x.hosts [.slice bG x.hosts.length bD] fQ:=GY ▸ Rz.alloc _
 have apv:w.heap.size∉fQ:=fun hy=>Nat.lt_irrefl _ (h.lt _ (by simp [hy]))
 have VK:wa.cell? ⟨w.heap.size,0,none⟩ = some (.slice bG x.hosts.length bD):=by rw [← GY,cell_of_row _ _ _ _ _ _ (heap_alloc_new w _)];rfl
 replace X3:Own wa B x.au [.slice dn x.au.length bW] jg:=GY ▸ X3.alloc _
 have ar8:w.heap.size∉jg:=fun hy=>Nat.lt_irrefl _ (h.lt _ (by simp [hy]))
 have ab3:wa.cell? ⟨w.heap.size,1,none⟩ = some (.slice dn x.au.length bW):=by rw [← GY,cell_of_row _ _ _ _ _ _ (heap_alloc_new w _)];rfl
 clear GY
 refine (aii x.hosts _ _ _ _ _ (k) _ Rz rfl (by omega) (by omega)).mono ?_
 rintro e w1 ⟨rfl,atu,ab4⟩
 replace VK:=(World.cell?_of_block (a:=⟨w.heap.size,0,none⟩) (ab4.block _ hz apv)).trans VK
 replace X3:=ab4.own X3 akN
 replace ab3:=(World.cell?_of_block (a:=⟨w.heap.size,1,none⟩) (ab4.block _ hz apv)).trans ab3
 replace hz:=Nat.lt_of_lt_of_le hz ab4.size
 replace Rz:=atu
 go_wp2_with fail
 refine (aez x.au _ _ _ _ _ (k+(cO lI x.hosts:Int)) _ X3 rfl (by omega) (by omega)).mono ?_
 rintro e w2 ⟨rfl,hNpods,agM⟩
 replace Rz:=agM.own Rz akM
 replace VK:=(World.cell?_of_block (a:=⟨w.heap.size,0,none⟩) (agM.block _ hz ar8)).trans VK
 replace ab3:=(World.cell?_of_block (a:=⟨w.heap.size,1,none⟩) (agM.block _ hz ar8)).trans ab3
 replace hz:=Nat.lt_of_lt_of_le hz agM.size
 replace X3:=hNpods
 go_wp2_with fail
 go_ret
 refine ⟨by first | rfl | (simp only [Int.add_assoc,Int.natCast_add];rfl),?_,((hUa.trans (ab4.mono (G:=fQ++(jg)) (fun y hy=>by simp [hy]))).trans (agM.mono (G:=fQ++(jg)) (fun y hy=>by simp [hy])))⟩
 exact ⟨(by have:=(nJ (Rz.rd) (nJ (X3.rd) (nJ (jL w2 (x.next) hnext) ((nJ (jL w2 (x.weights.pack) aV) (nJ (jL w2 (x.weights.spread) aP) (jL w2 (x.weights.soft) aW)))))));simp only [List.nil_append,List.append_nil,List.append_assoc,List.cons_append,yN] at this;exact this),h.nodup,h.base,(by intro y hy;(try simp only [List.mem_append] at hy);rcases hy with hy | hy <;> first | exact Rz.plain y hy | exact X3.plain y hy)⟩
set_option maxRecDepth 100000 in
set_option maxHeartbeats 2000000 in
theorem uz (x:aU) (cs:List Value) (F:List Nat) (k:Int) (w:World) (h:rd w x cs F) (hm:qF x k = x) (hk0:0≤k) (hk:k+iw x≤1073741823) :
 Calls Tryz.prog 10 #[.agg cs.toArray,.int .i64 k] w fun e w'=>e = .returned (.int .i64 (k+iw x))∧Below w.heap.size w w':=by
 obtain ⟨bG,bD,fQ,dn,bW,jg,hck,su,bQ,dM,hnext,aV,aP,aW⟩:=aO h
 clear h
 subst hck
 simp only [iw] at hk ⊢
 push_cast at hk ⊢
 have e0:EX JR lI x.hosts (k) = x.hosts:=congrArg (fun z:aU=>z.hosts) hm
 have e1:EX CS jh x.au (k+(cO lI x.hosts:Int)) = x.au:=congrArg (fun z:aU=>z.au) hm
 clear hm
 have hbl:=aj w
 go_enter Tryz.func10,Tryz.ntmps10
 go_wp2_with fail
 generalize GY:World.alloc w _ = wa
 replace hbl:Below w.heap.size w wa:=GY ▸ ak (aj w) _
 have hz:w.heap.size < wa.heap.size:=by rw [← GY];simp
 replace bQ:Sl wa x.hosts bG bD fQ:=Sl.ext bQ hbl
 have VK:wa.cell? ⟨w.heap.size,0,none⟩ = some (.slice bG x.hosts.length bD):=by rw [← GY,cell_of_row _ _ _ _ _ _ (heap_alloc_new w _)];rfl
 replace dM:Sl wa x.au dn bW jg:=Sl.ext dM hbl
 have ab3:wa.cell? ⟨w.heap.size,1,none⟩ = some (.slice dn x.au.length bW):=by rw [← GY,cell_of_row _ _ _ _ _ _ (heap_alloc_new w _)];rfl
 clear GY
 refine (aij x.hosts _ _ _ _ (k) _ bQ rfl e0 (by omega) (by omega)).mono ?_
 rintro e w1 ⟨rfl,hn⟩
 replace bQ:=Sl.ext bQ hn
 replace VK:=((ay hn).1 _ _ hz).trans VK
 replace dM:=Sl.ext dM hn
 replace ab3:=((ay hn).1 _ _ hz).trans ab3
 replace hz:=Nat.lt_of_lt_of_le hz hn.size
 replace hbl:=ah hbl hn
 clear hn
 go_wp2_with fail
 refine (aeB x.au _ _ _ _ (k+(cO lI x.hosts:Int)) _ dM rfl e1 (by omega) (by omega)).mono ?_
 rintro e w2 ⟨rfl,hn⟩
 replace bQ:=Sl.ext bQ hn
 replace VK:=((ay hn).1 _ _ hz).trans VK
 replace dM:=Sl.ext dM hn
 replace ab3:=((ay hn).1 _ _ hz).trans ab3
 replace hz:=Nat.lt_of_lt_of_le hz hn.size
 replace hbl:=ah hbl hn
 clear hn
 go_wp2_with fail
 go_ret
 exact ⟨by first | rfl | (simp only [Int.add_assoc,Int.natCast_add];rfl),hbl⟩
end Go.Proofs.YtogkjlcoadhpgaaGreat
namespace Go.Proofs.YtogkjlcoadhpgaaGreat
open Go.ChangeShapes Go.WideShapes Go.ChangeAt Go.RowKit
set_option linter.unusedVariables false
set_option linter.unusedSimpArgs false
theorem uK (x:aU):iw x≤6 * x.wt:=by
 have h0:=FN aov x.hosts
 have h1:=FN akL x.au
 simp only [iw,wtS,aU.wt] at *
 omega
end Go.Proofs.YtogkjlcoadhpgaaGreat
