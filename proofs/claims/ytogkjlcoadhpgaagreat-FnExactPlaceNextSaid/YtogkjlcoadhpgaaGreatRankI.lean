/- RankingOf of the program. No condition. -/
import Derived.Test.YtogkjlcoadhpgaaGreatRankP
import Derived.Test.YtogkjlcoadhpgaaGreatRankS
namespace Go.Proofs.YtogkjlcoadhpgaaGreat
open Go.ChangeShapes Go.WideShapes Go.ChangeAt Go.RowKit
set_option linter.unusedVariables false
set_option linter.unusedSimpArgs false
theorem asf {w:World} {B c:Nat} {xs:List ByteArray} {A:Option Addr} {F:List Nat} (h:Own w B xs [.slice A xs.length c] F) (hne:xs≠[]) :
 ∃b o,A = some ⟨b,o,none⟩∧B≤b∧jJ (fun s:ByteArray=>[Value.string s]) 1 w w b o xs ∧
  ∀w' ys,ys.length = xs.length→(∀y∈ys,y∈xs)→jJ (fun s:ByteArray=>[Value.string s]) 1 w w' b o ys→Own w' B ys [.slice (some ⟨b,o,none⟩) ys.length c] [b]:=by
 obtain ⟨⟨A',c',G,ds,e,hc1,hc2,hc,h0⟩,hnd,hbase,hplain⟩:=h
 simp only [List.cons.injEq,Value.slice.injEq,and_true,true_and] at e
 obtain ⟨rfl,rfl⟩:=e
 rcases h0 with h0 | ⟨b,o,rfl,rfl,hb,hcell⟩
 ·exact absurd h0.1 hne
 obtain ⟨rfl,rfl,hsz⟩:=ML _ _ _ hc
 refine ⟨b,o,rfl,hbase b (List.mem_cons_self ..),⟨fun k x hk j u hj=>?_,hplain b (List.mem_cons_self ..),.refl _ _⟩,fun w' ys hl hm hS=>?_⟩
 ·rcases j with _ | j
  ·simp at hj
   subst hj
   have:=hcell k (.string x) (by rw [List.getElem?_map,hk];rfl)
   simpa using this
  ·simp at hj
 ·refine ⟨⟨_,c,[],ys.map Value.string,rfl,by omega,hc2,VZ w' ys fun y hy=>hsz y (hm y hy),.inr ⟨b,o,rfl,rfl,Nat.lt_of_lt_of_le hb hS.upd.size,fun j u hj=>?_⟩⟩,by simp,fun x hx=>?_,fun x hx=>?_⟩
  ·rw [List.getElem?_map] at hj
   cases hk:ys[j]? with
   | none=>rw [hk] at hj;cases hj
   | some y =>
     rw [hk] at hj
     cases hj
     have:=hS.tab j y hk 0 _ rfl
     simpa using this
  ·rw [List.mem_singleton.1 hx];exact hbase b (List.mem_cons_self ..)
  ·rw [List.mem_singleton.1 hx];exact hS.plain
set_option maxRecDepth 100000 in
set_option maxHeartbeats 4000000 in
theorem Xg (x:aU) (p:nI) (cs ps:List Value) (F G:List Nat) (w:World) (h:rd w x cs F) (h':rd w p ps G) (hw:(x.wt:Int)≤1048576) (hw':(p.wt:Int)≤1048576) :
 Calls Tryz.prog 101 #[.agg cs.toArray,.agg ps.toArray] w fun e w'=>∃A c G,e = .returned (.slice A (Jh x p).length c)∧Own w' w.heap.size (Jh x p) [.slice A (Jh x p).length c] G∧Below w.heap.size w w':=by
 have hwx:x.wt = kL Host.wt x.hosts+kL Placed.wt x.au:=rfl
 have hlen:(Ar x p x.hosts).length≤1048576:=by have:=gJ Host.wt x.hosts;have:=LY x p x.hosts;omega
 have HLEN:=Lib.hid hlen
 have HRL:=Lib.hid (ac6 x p)
 have HW:=Lib.hid hw
 have Uc:=Lib.hid hw'
 clear hw hw' hwx hlen
 have hr:=h
 have hr':=h'
 obtain ⟨bG,bD,fQ,dn,bW,jg,hck,hF,bQ,dM,hnext,aV,aP,aW⟩:=aO hr
 obtain ⟨bY,bZ,iq,eU,eX,jV,bg,bn,dK,jU,hG,jW,dA,kQ,lg,lG,iO,bK⟩:=dL hr'
 subst hck jU
 clear hF hG hr hr'
 go_enter Tryz.func101,Tryz.ntmps101
 go_wp2_with fail
 refine (Zu x p _ _ _ _ _ (aJ h atT) (aJ h' atT) HW.out Uc.out).mono ?_
 rintro e w1 ⟨A,c,G1,rfl,hO,hb1⟩
 obtain ⟨hc1,hf1⟩:=ay hb1
 have hz1:w.heap.size < w1.heap.size:=sq hb1.size
 have hy1:w.heap.size+1 < w1.heap.size:=sq hb1.size
 have hBB:Below w.heap.size w w1:=ah atT hb1
 have c0:w1.cell? ⟨w.heap.size,0,none⟩ = some (.slice bG x.hosts.length bD):=by rw [hc1 _ _ (by simp;omega),World.cell?_of_block (heap_alloc_old _ _ (by simp)),cell_of_row _ _ _ _ _ _ (heap_alloc_new w _)];rfl
 have c1:w1.cell? ⟨w.heap.size,1,none⟩ = some (.slice dn x.au.length bW):=by rw [hc1 _ _ (by simp;omega),World.cell?_of_block (heap_alloc_old _ _ (by simp)),cell_of_row _ _ _ _ _ _ (heap_alloc_new w _)];rfl
 have c2:w1.cell? ⟨w.heap.size,2,none⟩ = some (.int .i64 x.next):=by rw [hc1 _ _ (by simp;omega),World.cell?_of_block (heap_alloc_old _ _ (by simp)),cell_of_row _ _ _ _ _ _ (heap_alloc_new w _)];rfl
 have c3:w1.cell? ⟨w.heap.size,3,none⟩ = some (.int .i64 x.weights.pack):=by rw [hc1 _ _ (by simp;omega),World.cell?_of_block (heap_alloc_old _ _ (by simp)),cell_of_row _ _ _ _ _ _ (heap_alloc_new w _)];rfl
 have c4:w1.cell? ⟨w.heap.size,4,none⟩ = some (.int .i64 x.weights.spread):=by rw [hc1 _ _ (by simp;omega),World.cell?_of_block (heap_alloc_old _ _ (by simp)),cell_of_row _ _ _ _ _ _ (heap_alloc_new w _)];rfl
 have c5:w1.cell? ⟨w.heap.size,5,none⟩ = some (.int .i64 x.weights.soft):=by rw [hc1 _ _ (by simp;omega),World.cell?_of_block (heap_alloc_old _ _ (by simp)),cell_of_row _ _ _ _ _ _ (heap_alloc_new w _)];rfl
 have d0:w1.cell? ⟨w.heap.size+1,0,none⟩ = some (.string p.name):=by rw [hc1 _ _ (by simp)];simp
 have d1:w1.cell? ⟨w.heap.size+1,1,none⟩ = some (.slice bY p.labels.length bZ):=by rw [hc1 _ _ (by simp)];simp
 have d2:w1.cell? ⟨w.heap.size+1,2,none⟩ = some (.int .i64 p.cpu):=by rw [hc1 _ _ (by simp)];simp
 have d3:w1.cell? ⟨w.heap.size+1,3,none⟩ = some (.int .i64 p.mem):=by rw [hc1 _ _ (by simp)];simp
 have d4:w1.cell? ⟨w.heap.size+1,4,none⟩ = some (.int .i64 p.rank):=by rw [hc1 _ _ (by simp)];simp
 have d5:w1.cell? ⟨w.heap.size+1,5,none⟩ = some (.slice eU p.needs.length eX):=by rw [hc1 _ _ (by simp)];simp
 have d6:w1.cell? ⟨w.heap.size+1,6,none⟩ = some (.slice bg p.tolerances.length bn):=by rw [hc1 _ _ (by simp)];simp
 cases hE:decide (Ar x p x.hosts = []) with
 | true =>
   have hE:Ar x p x.hosts = []:=by simpa using hE
   have hE2:Jh x p = []:=by unfold Jh;rw [hE];rfl
   rw [hE] at hO ⊢
   simp only [List.length_nil] at hO ⊢
   have HE2:=Lib.hid hE2
   clear hE2 hE
   go_wp2_with fail
   refine (aeI _ A c _).mono ?_
   rintro e w2 ⟨rfl,hw2⟩
   subst hw2
   go_wp2
   go_ret
   exact ⟨A,c,G1,by rw [HE2.out];rfl,by rw [HE2.out];exact hO.mono (by simp <;> omega),hBB⟩
 | false =>
   have hE:Ar x p x.hosts≠[]:=by simpa using hE
   obtain ⟨b,o,rfl,hbB,hST,hBK⟩:=asf hO hE
   have HBK:=Lib.hid hBK
   have HO:=Lib.hid hO
   have hbb:w.heap.size+1 < b:=by simp at hbB;omega
   have HC:aaS (fun s:ByteArray=>s) (CV x p) ⟨w.heap.size,0,none⟩ ⟨w.heap.size+1,0,none⟩ w1 b:=by
    intro a a' wz hu
    have ek:∀g i,g < w1.heap.size→g≠b→wz.cell? ⟨g,i,none⟩ = w1.cell? ⟨g,i,none⟩:=fun g i h1 h2=>World.cell?_of_block (hu.block g h1 (by simpa using h2))
    have hz2:=hu.size
    refine ase x p bG dn bY eU bg bD bW bZ eX bn F G _ _ wz (hu.rd (aJ h hBB) (fun g hg hgb=>?_)) (hu.rd (aJ h' hBB) (fun g hg hgb=>?_)) HW.out Uc.out
     ((ek _ _ hz1 (by omega)).trans c0) ((ek _ _ hz1 (by omega)).trans c1) ((ek _ _ hz1 (by omega)).trans c2) ((ek _ _ hz1 (by omega)).trans c3) ((ek _ _ hz1 (by omega)).trans c4) ((ek _ _ hz1 (by omega)).trans c5) ((ek _ _ hy1 (by omega)).trans d0) ((ek _ _ hy1 (by omega)).trans d1) ((ek _ _ hy1 (by omega)).trans d2) ((ek _ _ hy1 (by omega)).trans d3) ((ek _ _ hy1 (by omega)).trans d4) ((ek _ _ hy1 (by omega)).trans d5) ((ek _ _ hy1 (by omega)).trans d6) (by omega) (by omega) a a'
    ·have:=Dat.lt h g hg
     simp at hgb;omega
    ·have:=Dat.lt h' g hg
     simp at hgb;omega
   have HCC:=Lib.hid HC
   clear HC hO hBK hbB
   go_wp2_with fail
   refine (aeJ (fun s:ByteArray=>s) w1 _ b o c _ (Ar x p x.hosts) (CV x p) _ _ hST rfl HLEN.out (ap8 x p) HCC.out).mono ?_
   rintro e w2 ⟨rfl,hS2⟩
   have hO2:=HBK.out w2 (Jh x p) HRL.out (fun y hy=>by
    rcases adi _ _ hy with hy | hy
    ·cases hy
    ·exact hy) hS2
   have hB2:Below w.heap.size w w2:=hBB.trans (hS2.upd.below (fun g hg=>by rw [List.mem_singleton.1 hg];omega) (by omega))
   have HRR:=Lib.hid HRL.out.symm
   go_wp2
   go_ret
   refine ⟨some ⟨b,o,none⟩,c,[b],by rw [HRR.out];rfl,hO2.mono (by simp <;> omega),hB2⟩
end Go.Proofs.YtogkjlcoadhpgaaGreat
namespace Go.Proofs.YtogkjlcoadhpgaaGreat
open Go.ChangeShapes Go.WideShapes Go.ChangeAt Go.RowKit
set_option linter.unusedVariables false
set_option linter.unusedSimpArgs false
def aff (x:aU) (p:nI):ByteArray:=(Jh x p).headD ⟨#[]⟩
def afg (x:aU) (p:nI):Bool:=!(Jh x p).isEmpty
set_option maxRecDepth 100000 in
set_option maxHeartbeats 4000000 in
theorem ahW (x:aU) (p:nI) (cs ps:List Value) (F G:List Nat) (w:World) (h:rd w x cs F) (h':rd w p ps G) (hw:(x.wt:Int)≤1048576) (hw':(p.wt:Int)≤1048576) :
 Calls Tryz.prog 59 #[.agg cs.toArray,.agg ps.toArray] w fun e w'=>e = .returned (.tuple #[.string (aff x p),.bool (afg x p)])∧Below w.heap.size w w':=by
 have HW:=Lib.hid hw
 have Uc:=Lib.hid hw'
 clear hw hw'
 have hr:=h
 have hr':=h'
 obtain ⟨bG,bD,fQ,dn,bW,jg,hck,hF,bQ,dM,hnext,aV,aP,aW⟩:=aO hr
 obtain ⟨bY,bZ,iq,eU,eX,jV,bg,bn,dK,jU,hG,jW,dA,kQ,lg,lG,iO,bK⟩:=dL hr'
 subst hck jU
 clear hF hG hr hr'
 have HB:=Lib.hid (show ∀l,Jh x p = l→aff x p = l.headD ⟨#[]⟩∧afg x p = !l.isEmpty from fun l hl=>by unfold aff afg;rw [hl];exact ⟨rfl,rfl⟩)
 go_enter Tryz.func59,Tryz.ntmps59
 go_wp2_with fail
 refine (Xg x p _ _ _ _ _ (aJ h atT) (aJ h' atT) HW.out Uc.out).mono ?_
 rintro e w1 ⟨A,c,G1,rfl,hO,hb1⟩
 have hBB:Below w.heap.size w w1:=ah atT hb1
 obtain ⟨l,hl⟩:∃l,Jh x p = l:=⟨_,rfl⟩
 rw [hl] at hO ⊢
 have HL:=Lib.hid (HB.out l hl)
 clear hl
 cases l with
 | nil =>
   simp only [List.length_nil] at hO ⊢
   go_wp2
   go_ret2
   exact ⟨by rw [HL.out.1,HL.out.2];rfl,hBB⟩
 | cons y ys =>
   exact Zaby
set_option maxRecDepth 100000 in
set_option maxHeartbeats 4000000 in
theorem ahX (x:aU) (p:nI) (cs ps:List Value) (F G:List Nat) (w:World) (h:rd w x cs F) (h':rd w p ps G) (hw:(x.wt:Int)≤1048576) (hw':(p.wt:Int)≤1048576) :
 Calls Tryz.prog 43 #[.agg cs.toArray,.agg ps.toArray] w fun e w'=>e = .returned (.tuple #[.string (aff x p),.bool (afg x p)])∧Below w.heap.size w w':=by
 have HW:=Lib.hid hw
 have Uc:=Lib.hid hw'
 clear hw hw'
 have hr:=h
 have hr':=h'
 obtain ⟨bG,bD,fQ,dn,bW,jg,hck,hF,bQ,dM,hnext,aV,aP,aW⟩:=aO hr
 obtain ⟨bY,bZ,iq,eU,eX,jV,bg,bn,dK,jU,hG,jW,dA,kQ,lg,lG,iO,bK⟩:=dL hr'
 subst hck jU
 clear hF hG hr hr'
 have HB:=Lib.hid (show ∀l,Jh x p = l→aff x p = l.headD ⟨#[]⟩∧afg x p = !l.isEmpty from fun l hl=>by unfold aff afg;rw [hl];exact ⟨rfl,rfl⟩)
 go_enter Tryz.func43,Tryz.ntmps43
 go_wp2_with fail
 refine (Xh x p _ _ _ _ _ (aJ h atT) (aJ h' atT) HW.out Uc.out).mono ?_
 rintro e w1 ⟨A,c,G1,rfl,hO,hb1⟩
 have hBB:Below w.heap.size w w1:=ah atT hb1
 obtain ⟨l,hl⟩:∃l,Jh x p = l:=⟨_,rfl⟩
 rw [hl] at hO ⊢
 have HL:=Lib.hid (HB.out l hl)
 clear hl
 cases l with
 | nil =>
   simp only [List.length_nil] at hO ⊢
   go_wp2
   go_ret2
   exact ⟨by rw [HL.out.1,HL.out.2];rfl,hBB⟩
 | cons y ys =>
   exact Zaby
end Go.Proofs.YtogkjlcoadhpgaaGreat
