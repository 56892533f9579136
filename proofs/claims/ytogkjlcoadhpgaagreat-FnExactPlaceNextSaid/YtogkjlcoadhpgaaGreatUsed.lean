/- UsedOn, of the program and of the reference. No condition. -/
import Derived.Test.YtogkjlcoadhpgaaGreatInsP
import Derived.Test.YtogkjlcoadhpgaaGreatCmp2
import Derived.Test.YtogkjlcoadhpgaaGreatTaintOk
namespace Go.Proofs.YtogkjlcoadhpgaaGreat
open Go.ChangeShapes Go.WideShapes Go.ChangeAt Go.RowKit
set_option linter.unusedVariables false
set_option linter.unusedSimpArgs false
def onP (nm:ByteArray) (p:Placed):Bool:=!(nm.toList == [])&&(p.on.toList == nm.toList)
def F7 (nm:ByteArray) (xs:List Placed):List nI:=(xs.filter (onP nm)).map Placed.aS
theorem ae8 {nm:ByteArray} {xs:List Placed} {k:Nat} (h:k < xs.length) (hp:onP nm xs[k] = true):F7 nm (xs.take (k+1)) = F7 nm (xs.take k)++[xs[k].aS]:=by
 unfold F7;rw [List.take_succ_eq_append_getElem h,List.filter_append,List.map_append];simp [hp]
theorem YC {nm:ByteArray} {xs:List Placed} {k:Nat} (h:k < xs.length) (hp:onP nm xs[k] = false):F7 nm (xs.take (k+1)) = F7 nm (xs.take k):=by
 unfold F7;rw [List.take_succ_eq_append_getElem h,List.filter_append,List.map_append];simp [hp]
theorem NK (nm:ByteArray) (xs:List Placed):(F7 nm xs).length≤xs.length:=by unfold F7;rw [List.length_map];exact List.length_filter_le _ _
theorem acI (nm:ByteArray) (xs:List Placed) (k:Nat):(F7 nm (xs.take k)).length≤k:=Nat.le_trans (NK _ _) avI
theorem ajl (nm:ByteArray) (xs:List Placed) (h:nm.toList = []):F7 nm xs = []:=by
 unfold F7 onP;simp [h]
def KF (nm:ByteArray) (xs:List Placed):Value :=
 match vU (F7 nm xs) with
 | some (a,b)=>.tuple #[.int .i64 a,.int .i64 b,.int .i64 (F7 nm xs).length,.bool true]
 | none=>.tuple #[.int .i64 0,.int .i64 0,.int .i64 0,.bool false]
theorem asM:(Tryz.prog.info? 76).map (fun i=>(i.zero,i.size,i.bytes)) = some (some (.agg #[.string ⟨#[]⟩,.slice none 0 0,.int .i64 0,.int .i64 0,.int .i64 0,.slice none 0 0,.slice none 0 0]),7,112):=by kernel_rfl
theorem asN:DL Tryz.prog 113 76 (.agg #[.string ⟨#[]⟩,.slice none 0 0,.int .i64 0,.int .i64 0,.int .i64 0,.slice none 0 0,.slice none 0 0]) 7 112:=⟨Tryz.underlying113,asM,rfl,by omega⟩
set_option maxRecDepth 100000 in
set_option maxHeartbeats 1000000 in
theorem iQ (x:aU) (cs:List Value) (F:List Nat) (nm:ByteArray) (w:World) (h:rd w x cs F) (hl:(x.au.length:Int)≤1048576) :
 Calls Tryz.prog 48 #[.agg cs.toArray,.string nm] w fun e w'=>e = .returned (KF nm x.au)∧Below w.heap.size w w':=by
 obtain ⟨bG,bD,fQ,dn,bW,jg,hck,qp,bQ,dM,hnext,aV,aP,aW⟩:=aO h
 subst hck
 clear qp
 go_enter Tryz.func48,Tryz.ntmps48
 go_wp2_with fail
 go_loopw [8,18] (fun v i wr=>∃(k:Nat) (ds:List Value) (G:List Nat),k≤x.au.length∧i = .int .i64 k∧wr.ownsRow (w.heap.size+1) 76 7 v (F7 nm (x.au.take k)).length ds∧jo w (F7 nm (x.au.take k)) ds G∧wr.cell? ⟨w.heap.size,1,none⟩ = some (.slice dn x.au.length bW)∧Below w.heap.size w wr) (fun _ i _=>x.au.length - (intOf i).toNat)
 case atStart =>
  exact Zab5
 case round =>
  obtain ⟨k,ds,G,hk,rfl,hown,hcs,hqc,hbl⟩:=hrel
  have hqz:w.heap.size < wr.heap.size:=World.block_lt_of_cell? wr _ hqc
  by_cases hlt:k < x.au.length
  ·have hol:=acI nm x.au k
   have hnq:some w.heap.size≠u8.ownBlock:=by intro e;have:=hown.lt _ e.symm;omega
   obtain ⟨b,o,ck,Fk,rfl,o9,hbs,hr,hsub,hc⟩:=Sl.get (α:=Placed) (A:=dn) (c:=bW) dM hlt
   obtain ⟨c1,c2,F1,F2,rfl,rfl,QS,_,_,_,_,rfl,rfl,⟨rfl,rfl,hon⟩,⟨rfl,rfl,hseq⟩⟩:=hr
   have abj:=QS
   obtain ⟨gV,gW,lF,iR,iT,mV,dD,dF,iH,hck,su,nY,iE,rF,rG,oZ,je,dN⟩:=dL QS
   subst hck
   clear su QS iE je dN
   have q0:w.cell? ⟨b,o+k * 9,none⟩ = some (.string x.au[k].aS.name):=by exact hc 0 _ rfl
   have q1:w.cell? ⟨b,o+k * 9+1,none⟩ = some (.slice gV x.au[k].aS.labels.length gW):=by rw [Nat.add_assoc];exact hc 1 _ rfl
   have q2:w.cell? ⟨b,o+k * 9+2,none⟩ = some (.int .i64 x.au[k].aS.cpu):=by rw [Nat.add_assoc];exact hc 2 _ rfl
   have q3:w.cell? ⟨b,o+k * 9+3,none⟩ = some (.int .i64 x.au[k].aS.mem):=by rw [Nat.add_assoc];exact hc 3 _ rfl
   have q4:w.cell? ⟨b,o+k * 9+4,none⟩ = some (.int .i64 x.au[k].aS.rank):=by rw [Nat.add_assoc];exact hc 4 _ rfl
   have q5:w.cell? ⟨b,o+k * 9+5,none⟩ = some (.slice iR x.au[k].aS.needs.length iT):=by rw [Nat.add_assoc];exact hc 5 _ rfl
   have q6:w.cell? ⟨b,o+k * 9+6,none⟩ = some (.slice dD x.au[k].aS.tolerances.length dF):=by rw [Nat.add_assoc];exact hc 6 _ rfl
   have q7:w.cell? ⟨b,o+k * 9+7,none⟩ = some (.string x.au[k].on):=by rw [Nat.add_assoc];exact hc 7 _ rfl
   have q8:w.cell? ⟨b,o+k * 9+8,none⟩ = some (.int .i64 x.au[k].seq):=by rw [Nat.add_assoc];exact hc 8 _ rfl
   clear hc
   replace q0:=((ay hbl).1 b _ hbs).trans q0
   replace q1:=((ay hbl).1 b _ hbs).trans q1
   replace q2:=((ay hbl).1 b _ hbs).trans q2
   replace q3:=((ay hbl).1 b _ hbs).trans q3
   replace q4:=((ay hbl).1 b _ hbs).trans q4
   replace q5:=((ay hbl).1 b _ hbs).trans q5
   replace q6:=((ay hbl).1 b _ hbs).trans q6
   replace q7:=((ay hbl).1 b _ hbs).trans q7
   replace q8:=((ay hbl).1 b _ hbs).trans q8
   cases hs1:(nm.toList == []) <;> cases hs2:(x.au[k].on.toList == nm.toList)
   all_goals
    have hp:onP nm x.au[k] = _:=avV
    simp only [Bool.not_true,Bool.not_false,Bool.true_and,Bool.false_and] at hp
    have HP:=Lib.hid hp
    clear hp
    go_wp2_with (
     at_builtin
     go_must (refine lC asN (by rfl) _ _ (by rfl) _ _ _ _ _ (hown.alloc _) (by rfl) [.string x.au[k].aS.name,.slice gV x.au[k].aS.labels.length gW,.int .i64 x.au[k].aS.cpu,.int .i64 x.au[k].aS.mem,.int .i64 x.au[k].aS.rank,.slice iR x.au[k].aS.needs.length iT,.slice dD x.au[k].aS.tolerances.length dF] aue (by rfl) aub (by omega) (by omega) avJ ?_)
     intro v2 w2 hown2 hg2 hz2
     go_must (have hb2:Below w.heap.size w w2:=lS (B:=w.heap.size) ((vP hown (Nat.le_succ _)).alloc _) hg2 (ak hbl _) avK)
     go_must (have alJ:=hg2.cell ((World.cell?_of_block (heap_alloc_old wr _ (by omega))).trans hqc) hnq))
    first
     | exact ⟨⟨k+1,_,_,by omega,by go_num,(by rw [YC hlt HP.out];exact hown),awK,hqc,hbl⟩,by simp [intOf];omega⟩
     | exact ⟨⟨k+1,_,_,by omega,by go_num,(by rw [ae8 hlt HP.out,List.length_append];exact hown2),(by rw [ae8 hlt HP.out];exact hcs.append (.single abj)),alJ,hb2⟩,by simp [intOf];omega⟩
     | exact ⟨⟨k+1,_,_,by omega,by go_num,(by rw [YC hlt HP.out];exact hown.alloc _),awK,(World.cell?_of_block (heap_alloc_old wr _ (by omega))).trans hqc,ak hbl _⟩,by simp [intOf];omega⟩
  ·have hkl:k = x.au.length:=by omega
   subst hkl
   rw [List.take_length] at hown hcs
   obtain ⟨Al,cl,Gl,rfl,hsl⟩:=Sl.oJ hown (hcs.frame (fun b hb=>hbl.block b (hcs.lt b hb)) hbl.size)
   have hol:=NK nm x.au
   clear hown hcs
   rcases hr1:vU (F7 nm x.au) with _ | ⟨a,b⟩
   all_goals
    have hfin:KF nm x.au = _:=awh
    have HF:=Lib.hid hfin
    have R1:=Lib.hid hr1
    clear hr1 hfin
    go_wp2_with fail
    refine (am9 (F7 nm x.au) Al _ cl Gl _ hsl rfl (by omega)).mono ?_
    rw [R1.out]
    simp only [am8]
    rintro e w2 ⟨rfl,hb2⟩
    go_wp2
    go_returns
    exact ⟨by rw [HF.out],ah hbl hb2⟩
set_option maxRecDepth 100000 in
set_option maxHeartbeats 1000000 in
theorem jm (x:aU) (cs:List Value) (F:List Nat) (nm:ByteArray) (w:World) (h:rd w x cs F) (hl:(x.au.length:Int)≤1048576) :
 Calls Tryz.prog 40 #[.agg cs.toArray,.string nm] w fun e w'=>e = .returned (KF nm x.au)∧Below w.heap.size w w':=by
 obtain ⟨bG,bD,fQ,dn,bW,jg,hck,qp,bQ,dM,hnext,aV,aP,aW⟩:=aO h
 subst hck
 clear qp
 go_enter Tryz.func40,Tryz.ntmps40
 go_wp2_with fail
 go_loopw [8,9] (fun v i wr=>∃(k:Nat) (ds:List Value) (G:List Nat),k≤x.au.length∧i = .int .i64 k∧wr.ownsRow (w.heap.size+1) 76 7 v (F7 nm (x.au.take k)).length ds∧jo w (F7 nm (x.au.take k)) ds G∧wr.cell? ⟨w.heap.size,1,none⟩ = some (.slice dn x.au.length bW)∧Below w.heap.size w wr) (fun _ i _=>x.au.length - (intOf i).toNat)
 case atStart =>
  exact Zab5
 case round =>
  obtain ⟨k,ds,G,hk,rfl,hown,hcs,hqc,hbl⟩:=hrel
  have hqz:w.heap.size < wr.heap.size:=World.block_lt_of_cell? wr _ hqc
  cases hs1:(nm.toList == []) with
  | true =>
    have he:nm.toList = []:=by simpa using hs1
    rw [ajl nm _ he,← ajl nm x.au he] at hown hcs
    by_cases hlt:k < x.au.length
    all_goals
     obtain ⟨Al,cl,Gl,rfl,hsl⟩:=Sl.oJ hown (hcs.frame (fun b hb=>hbl.block b (hcs.lt b hb)) hbl.size)
     have hol:=NK nm x.au
     clear hown hcs
     rcases hr1:vU (F7 nm x.au) with _ | ⟨a,b⟩
     all_goals
      have hfin:KF nm x.au = _:=awh
      have HF:=Lib.hid hfin
      have R1:=Lib.hid hr1
      clear hr1 hfin
      go_wp2_with fail
      refine (ad8 (F7 nm x.au) Al _ cl Gl _ hsl rfl (by omega)).mono ?_
      rw [R1.out]
      simp only [am8]
      rintro e w2 ⟨rfl,hb2⟩
      go_wp2
      go_returns
      exact ⟨by rw [HF.out],ah hbl hb2⟩
  | false =>
    by_cases hlt:k < x.au.length
    ·have hol:=acI nm x.au k
     have hnq:some w.heap.size≠u8.ownBlock:=by intro e;have:=hown.lt _ e.symm;omega
     obtain ⟨b,o,ck,Fk,rfl,o9,hbs,hr,hsub,hc⟩:=Sl.get (α:=Placed) (A:=dn) (c:=bW) dM hlt
     obtain ⟨c1,c2,F1,F2,rfl,rfl,QS,_,_,_,_,rfl,rfl,⟨rfl,rfl,hon⟩,⟨rfl,rfl,hseq⟩⟩:=hr
     have abj:=QS
     obtain ⟨gV,gW,lF,iR,iT,mV,dD,dF,iH,hck,su,nY,iE,rF,rG,oZ,je,dN⟩:=dL QS
     subst hck
     clear su QS iE je dN
     have q0:w.cell? ⟨b,o+k * 9,none⟩ = some (.string x.au[k].aS.name):=by exact hc 0 _ rfl
     have q1:w.cell? ⟨b,o+k * 9+1,none⟩ = some (.slice gV x.au[k].aS.labels.length gW):=by rw [Nat.add_assoc];exact hc 1 _ rfl
     have q2:w.cell? ⟨b,o+k * 9+2,none⟩ = some (.int .i64 x.au[k].aS.cpu):=by rw [Nat.add_assoc];exact hc 2 _ rfl
     have q3:w.cell? ⟨b,o+k * 9+3,none⟩ = some (.int .i64 x.au[k].aS.mem):=by rw [Nat.add_assoc];exact hc 3 _ rfl
     have q4:w.cell? ⟨b,o+k * 9+4,none⟩ = some (.int .i64 x.au[k].aS.rank):=by rw [Nat.add_assoc];exact hc 4 _ rfl
     have q5:w.cell? ⟨b,o+k * 9+5,none⟩ = some (.slice iR x.au[k].aS.needs.length iT):=by rw [Nat.add_assoc];exact hc 5 _ rfl
     have q6:w.cell? ⟨b,o+k * 9+6,none⟩ = some (.slice dD x.au[k].aS.tolerances.length dF):=by rw [Nat.add_assoc];exact hc 6 _ rfl
     have q7:w.cell? ⟨b,o+k * 9+7,none⟩ = some (.string x.au[k].on):=by rw [Nat.add_assoc];exact hc 7 _ rfl
     have q8:w.cell? ⟨b,o+k * 9+8,none⟩ = some (.int .i64 x.au[k].seq):=by rw [Nat.add_assoc];exact hc 8 _ rfl
     clear hc
     replace q0:=((ay hbl).1 b _ hbs).trans q0
     replace q1:=((ay hbl).1 b _ hbs).trans q1
     replace q2:=((ay hbl).1 b _ hbs).trans q2
     replace q3:=((ay hbl).1 b _ hbs).trans q3
     replace q4:=((ay hbl).1 b _ hbs).trans q4
     replace q5:=((ay hbl).1 b _ hbs).trans q5
     replace q6:=((ay hbl).1 b _ hbs).trans q6
     replace q7:=((ay hbl).1 b _ hbs).trans q7
     replace q8:=((ay hbl).1 b _ hbs).trans q8
     cases hs2:(x.au[k].on.toList == nm.toList)
     all_goals
      have hp:onP nm x.au[k] = _:=avV
      simp only [Bool.not_true,Bool.not_false,Bool.true_and,Bool.false_and] at hp
      have HP:=Lib.hid hp
      clear hp
      go_wp2_with (
       at_builtin
       go_must (refine lC asN (by rfl) _ _ (by rfl) _ _ _ _ _ hown (by rfl) [.string x.au[k].aS.name,.slice gV x.au[k].aS.labels.length gW,.int .i64 x.au[k].aS.cpu,.int .i64 x.au[k].aS.mem,.int .i64 x.au[k].aS.rank,.slice iR x.au[k].aS.needs.length iT,.slice dD x.au[k].aS.tolerances.length dF] aue (by rfl) aub (by omega) (by omega) avJ ?_)
       intro v2 w2 hown2 hg2 hz2
       go_must (have hb2:Below w.heap.size w w2:=lS (vP hown (Nat.le_succ _)) hg2 hbl hbl.size)
       go_must (have alJ:=hg2.cell hqc hnq))
      first
       | exact ⟨⟨k+1,_,_,by omega,by go_num,(by rw [YC hlt HP.out];exact hown),awK,hqc,hbl⟩,by simp [intOf];omega⟩
       | exact ⟨⟨k+1,_,_,by omega,by go_num,(by rw [ae8 hlt HP.out,List.length_append];exact hown2),(by rw [ae8 hlt HP.out];exact hcs.append (.single abj)),alJ,hb2⟩,by simp [intOf];omega⟩
       | exact ⟨⟨k+1,_,_,by omega,by go_num,(by rw [YC hlt HP.out];exact hown.alloc _),awK,(World.cell?_of_block (heap_alloc_old wr _ (by omega))).trans hqc,ak hbl _⟩,by simp [intOf];omega⟩
    ·have hkl:k = x.au.length:=by omega
     subst hkl
     rw [List.take_length] at hown hcs
     obtain ⟨Al,cl,Gl,rfl,hsl⟩:=Sl.oJ hown (hcs.frame (fun b hb=>hbl.block b (hcs.lt b hb)) hbl.size)
     have hol:=NK nm x.au
     clear hown hcs
     rcases hr1:vU (F7 nm x.au) with _ | ⟨a,b⟩
     all_goals
      have hfin:KF nm x.au = _:=awh
      have HF:=Lib.hid hfin
      have R1:=Lib.hid hr1
      clear hr1 hfin
      go_wp2_with fail
      refine (ad8 (F7 nm x.au) Al _ cl Gl _ hsl rfl (by omega)).mono ?_
      rw [R1.out]
      simp only [am8]
      rintro e w2 ⟨rfl,hb2⟩
      go_wp2
      go_returns
      exact ⟨by rw [HF.out],ah hbl hb2⟩
end Go.Proofs.YtogkjlcoadhpgaaGreat
namespace Go.Proofs.YtogkjlcoadhpgaaGreat
open Go.ChangeShapes Go.WideShapes Go.ChangeAt Go.RowKit
set_option linter.unusedVariables false
set_option linter.unusedSimpArgs false
def La (xs:List iU):Bool:=adb Dp qo 4 xs
set_option maxRecDepth 100000 in
set_option maxHeartbeats 2000000 in
theorem ZK (xs:List iU) (A:Option Addr) (n c:Nat) (F:List Nat) (w:World) (h:Sl w xs A c F) (hn:n = xs.length) (hl:(xs.length:Int)≤1048576) (hsm:∀l∈xs,(l.key.size:Int)≤1048576∧(l.value.size:Int)≤1048576) :
 Calls Tryz.prog 88 #[.slice A n c] w fun e w'=>e = .returned (.bool (La xs))∧Below w.heap.size w w':=by
 subst hn
 have Eo:=Lib.hid hsm
 clear hsm
 go_enter Tryz.func88,Tryz.ntmps88
 go_wp2_with fail
 go_loopw [7] (fun i wr=>∃k:Nat,k≤xs.length∧i = .int .i64 k∧Hid (∀j,j < k→rowAt Dp qo xs j = true)∧Below w.heap.size w wr) (fun i _=>xs.length - (intOf i).toNat)
 case atStart=>exact ⟨0,Nat.zero_le _,rfl,(fun j hj=>by omega),atS⟩
 case round =>
  obtain ⟨k,hk,rfl,hall,hbl⟩:=hrel
  by_cases hlt:k < xs.length
  ·obtain rfl | ⟨j,rfl⟩:k = 0∨∃j,k = j+1:=by cases k with | zero=>exact .inl rfl | succ j=>exact .inr ⟨j,rfl⟩
   ·obtain ⟨b,o,ck,Fk,rfl,o9,hbs,hr,hsub,hc⟩:=(Sl.ext (w':=wr) (A:=A) (c:=c) h hbl).get hlt
    obtain ⟨hck,su,hkey,kP,lD⟩:=oK hr
    subst hck
    have q0:wr.cell? ⟨b,o+0 * 3,none⟩ = some (.string xs[0].key):=by exact hc 0 _ rfl
    have q1:wr.cell? ⟨b,o+0 * 3+1,none⟩ = some (.string xs[0].value):=by rw [Nat.add_assoc];exact hc 1 _ rfl
    have q2:wr.cell? ⟨b,o+0 * 3+2,none⟩ = some (.int .i64 xs[0].effect):=by rw [Nat.add_assoc];exact hc 2 _ rfl
    clear hc
    simp only [Nat.zero_mul,Nat.add_zero] at q0 q1 q2
    have hs1:=(Eo.out xs[0] (List.getElem_mem ..)).1
    have hs2:=(Eo.out xs[0] (List.getElem_mem ..)).2
    subst su
    have hr0:=hr
    cases h1:Dp xs[0]
    all_goals
     have hp:=rowAt_zero (ok:=Dp) (less:=qo) hlt
     rw [h1] at hp
     try simp only [Bool.false_and,Bool.and_false,Bool.and_true,Bool.and_self] at hp
     change rowAt Dp qo xs _ = _ at hp
     have H1:=Lib.hid h1
     first
      | have HN:=Lib.hid (gq hall.out hp)
      | have HF:=Lib.hid (wU (most:=4) hlt hp)
     clear h1 hp
     go_wp2_with fail
     refine aF _ (by kernel_rfl) (by kernel_rfl) (aj _) ?_
     repeat (first
      | (apply aG
         case hw=>rfl
         simp only [Act.put,pz])
      | (apply aH
         case hw=>rfl
         case h =>
          intro wq hq
          have hcq:=(aB hq).1
          have lJ:=(aB hq).2
          go_simp
          first
           | exact ⟨hq,rfl⟩
           | exact ⟨aQ hq _,rfl⟩
           | (first | (refine (V9 xs[0] _ [] _ (aJ hr0 ave) hs1 hs2).mono ?_;rw [H1.out];rintro e w2 ⟨rfl,hb2⟩;exact ⟨rfl,aI hq hb2⟩) | (refine (CMP.out _ aut).mono ?_;rintro e w2 ⟨rfl,hb2⟩;exact ⟨rfl,aI hq hb2⟩))
           | (simp only [↓IntWalk.iteOmega];exact ⟨hq,rfl⟩)
         simp only [Act.put,pz]))
     refine aN ?_
     intro wn hn
     replace hn:=hn.out
     go_wp2
     first
      | exact ⟨⟨0+1,by omega,by go_num,HN.out,ah (ak hbl _) hn⟩,by simp [intOf];omega⟩
      | (go_ret;exact ⟨by unfold La;rw [HF.out];rfl,ah (ak hbl _) hn⟩)
   ·obtain ⟨b,o,ck,Fk,rfl,o9,hbs,hr,hsub,hc⟩:=(Sl.ext (w':=wr) (A:=A) (c:=c) h hbl).get hlt
    obtain ⟨hck,su,hkey,kP,lD⟩:=oK hr
    subst hck
    have q0:wr.cell? ⟨b,o+(j+1) * 3,none⟩ = some (.string xs[j+1].key):=by exact hc 0 _ rfl
    have q1:wr.cell? ⟨b,o+(j+1) * 3+1,none⟩ = some (.string xs[j+1].value):=by rw [Nat.add_assoc];exact hc 1 _ rfl
    have q2:wr.cell? ⟨b,o+(j+1) * 3+2,none⟩ = some (.int .i64 xs[j+1].effect):=by rw [Nat.add_assoc];exact hc 2 _ rfl
    clear hc
    obtain ⟨b',o',TY,Xw,e,Ht,hbs',hr',zQ,hc'⟩:=Sl.get (Sl.ext (w':=wr) (c:=c) h hbl) (show j < xs.length by omega)
    obtain ⟨jU,abT,vC,rP,uY⟩:=oK hr'
    subst jU
    obtain ⟨rfl,rfl⟩:b' = b∧o' = o:=by simpa using e.symm
    clear e
    have p0:wr.cell? ⟨b',o'+j * 3,none⟩ = some (.string xs[j].key):=by exact hc' 0 _ rfl
    have p1:wr.cell? ⟨b',o'+j * 3+1,none⟩ = some (.string xs[j].value):=by rw [Nat.add_assoc];exact hc' 1 _ rfl
    have p2:wr.cell? ⟨b',o'+j * 3+2,none⟩ = some (.int .i64 xs[j].effect):=by rw [Nat.add_assoc];exact hc' 2 _ rfl
    clear hc'
    have hwj:IntKind.i64.wrap (j:Int) = j:=IntWalk.i64_in _ (by omega)
    have hjl:j < xs.length:=by omega
    have hs1:=(Eo.out xs[j+1] (List.getElem_mem ..)).1
    have hs2:=(Eo.out xs[j+1] (List.getElem_mem ..)).2
    subst su
    have hr0:=hr
    cases h1:Dp xs[j+1] <;> cases h3:qo xs[j] xs[j+1]
    all_goals
     have hp:=yS (ok:=Dp) (less:=qo) hlt
     rw [h1,h3] at hp
     try simp only [Bool.false_and,Bool.and_false,Bool.and_true,Bool.and_self] at hp
     change rowAt Dp qo xs _ = _ at hp
     have H1:=Lib.hid h1
     first
      | have HN:=Lib.hid (gq hall.out hp)
      | have HF:=Lib.hid (wU (most:=4) hlt hp)
     have hC:∀wq,Below wr.heap.size wr wq→Calls Tryz.prog 133 #[.agg #[.string xs[j].key,.string xs[j].value,.int .i64 xs[j].effect],.agg #[.string xs[j+1].key,.string xs[j+1].value,.int .i64 xs[j+1].effect]] wq fun e w'=>e = .returned (.int .i64 (Qa (ao0 xs[j] xs[j+1])))∧Below wq.heap.size wq w' :=
      fun wq hq=>acE xs[j] xs[j+1] _ _ _ _ _ (aJ hr' hq) (aJ hr0 hq)
     have CMP:=Lib.hid hC
     clear hC
     have hz:=h3
     unfold qo at hz
     simp only [decide_eq_true_eq,decide_eq_false_iff_not,Int.not_lt] at hz
     generalize Qa (ao0 xs[j] xs[j+1]) = z at CMP hz
     clear h1 hp
     go_wp2_with fail
     refine aF _ (by kernel_rfl) (by kernel_rfl) (aj _) ?_
     repeat (first
      | (apply aG
         case hw=>rfl
         simp only [Act.put,pz])
      | (apply aH
         case hw=>rfl
         case h =>
          intro wq hq
          have hcq:=(aB hq).1
          have lJ:=(aB hq).2
          go_simp
          first
           | exact ⟨hq,rfl⟩
           | exact ⟨aQ hq _,rfl⟩
           | (first | (refine (V9 xs[j+1] _ [] _ (aJ hr0 ave) hs1 hs2).mono ?_;rw [H1.out];rintro e w2 ⟨rfl,hb2⟩;exact ⟨rfl,aI hq hb2⟩) | (refine (CMP.out _ aut).mono ?_;rintro e w2 ⟨rfl,hb2⟩;exact ⟨rfl,aI hq hb2⟩))
           | (simp only [↓IntWalk.iteOmega];exact ⟨hq,rfl⟩)
         simp only [Act.put,pz]))
     refine aN ?_
     intro wn hn
     replace hn:=hn.out
     go_wp2
     first
      | exact ⟨⟨j+1+1,by omega,by go_num,HN.out,ah (ak hbl _) hn⟩,by simp [intOf];omega⟩
      | (go_ret;exact ⟨by unfold La;rw [HF.out];rfl,ah (ak hbl _) hn⟩)
  ·have hkl:k = xs.length:=by omega
   subst hkl
   by_cases hm:(xs.length:Int)≤4
   ·have HF:=Lib.hid (Jy hm hall.out)
    go_wp2
    go_ret
    exact ⟨by unfold La;rw [HF.out];first | rfl | simp [hm],hbl⟩
   ·have HF:=Lib.hid (Jz (ok:=Dp) (less:=qo) hm)
    go_wp2
    go_ret
    exact ⟨by unfold La;rw [HF.out];first | rfl | simp [hm],hbl⟩
set_option maxRecDepth 100000 in
set_option maxHeartbeats 2000000 in
theorem ZL (xs:List iU) (A:Option Addr) (n c:Nat) (F:List Nat) (w:World) (h:Sl w xs A c F) (hn:n = xs.length) (hl:(xs.length:Int)≤1048576) (hsm:∀l∈xs,(l.key.size:Int)≤1048576∧(l.value.size:Int)≤1048576) :
 Calls Tryz.prog 79 #[.slice A n c] w fun e w'=>e = .returned (.bool (La xs))∧Below w.heap.size w w':=by
 subst hn
 have Eo:=Lib.hid hsm
 clear hsm
 by_cases hm:(xs.length:Int)≤4
 ·go_enter Tryz.func79,Tryz.ntmps79
  go_wp2_with fail
  go_loopw [3] (fun i wr=>∃k:Nat,k≤xs.length∧i = .int .i64 k∧Hid (∀j,j < k→rowAt Dp qo xs j = true)∧Below w.heap.size w wr) (fun i _=>xs.length - (intOf i).toNat)
  case atStart=>exact ⟨0,Nat.zero_le _,rfl,(fun j hj=>by omega),atS⟩
  case round =>
   obtain ⟨k,hk,rfl,hall,hbl⟩:=hrel
   by_cases hlt:k < xs.length
   ·obtain rfl | ⟨j,rfl⟩:k = 0∨∃j,k = j+1:=by cases k with | zero=>exact .inl rfl | succ j=>exact .inr ⟨j,rfl⟩
    ·obtain ⟨b,o,ck,Fk,rfl,o9,hbs,hr,hsub,hc⟩:=(Sl.ext (w':=wr) (A:=A) (c:=c) h hbl).get hlt
     obtain ⟨hck,su,hkey,kP,lD⟩:=oK hr
     subst hck
     have q0:wr.cell? ⟨b,o+0 * 3,none⟩ = some (.string xs[0].key):=by exact hc 0 _ rfl
     have q1:wr.cell? ⟨b,o+0 * 3+1,none⟩ = some (.string xs[0].value):=by rw [Nat.add_assoc];exact hc 1 _ rfl
     have q2:wr.cell? ⟨b,o+0 * 3+2,none⟩ = some (.int .i64 xs[0].effect):=by rw [Nat.add_assoc];exact hc 2 _ rfl
     clear hc
     simp only [Nat.zero_mul,Nat.add_zero] at q0 q1 q2
     have hs1:=(Eo.out xs[0] (List.getElem_mem ..)).1
     have hs2:=(Eo.out xs[0] (List.getElem_mem ..)).2
     subst su
     have hr0:=hr
     cases h1:Dp xs[0]
     all_goals
      have hp:=rowAt_zero (ok:=Dp) (less:=qo) hlt
      rw [h1] at hp
      try simp only [Bool.false_and,Bool.and_false,Bool.and_true,Bool.and_self] at hp
      change rowAt Dp qo xs _ = _ at hp
      have H1:=Lib.hid h1
      first
       | have HN:=Lib.hid (gq hall.out hp)
       | have HF:=Lib.hid (wU (most:=4) hlt hp)
      clear h1 hp
      go_wp2_with fail
      refine aF _ (by kernel_rfl) (by kernel_rfl) (aj _) ?_
      repeat (first
       | (apply aG
          case hw=>rfl
          simp only [Act.put,pz])
       | (apply aH
          case hw=>rfl
          case h =>
           intro wq hq
           have hcq:=(aB hq).1
           have lJ:=(aB hq).2
           go_simp
           first
            | exact ⟨hq,rfl⟩
            | exact ⟨aQ hq _,rfl⟩
            | (first | (refine (Wh xs[0] _ [] _ (aJ hr0 ave) hs1 hs2).mono ?_;rw [H1.out];rintro e w2 ⟨rfl,hb2⟩;exact ⟨rfl,aI hq hb2⟩) | (refine (CMP.out _ aut).mono ?_;rintro e w2 ⟨rfl,hb2⟩;exact ⟨rfl,aI hq hb2⟩))
            | (simp only [↓IntWalk.iteOmega];exact ⟨hq,rfl⟩)
          simp only [Act.put,pz]))
      refine aN ?_
      intro wn hn
      replace hn:=hn.out
      go_wp2
      first
       | exact ⟨⟨0+1,by omega,by go_num,HN.out,ah hbl hn⟩,by simp [intOf];omega⟩
       | (go_ret;exact ⟨by unfold La;rw [HF.out];rfl,ah hbl hn⟩)
    ·obtain ⟨b,o,ck,Fk,rfl,o9,hbs,hr,hsub,hc⟩:=(Sl.ext (w':=wr) (A:=A) (c:=c) h hbl).get hlt
     obtain ⟨hck,su,hkey,kP,lD⟩:=oK hr
     subst hck
     have q0:wr.cell? ⟨b,o+(j+1) * 3,none⟩ = some (.string xs[j+1].key):=by exact hc 0 _ rfl
     have q1:wr.cell? ⟨b,o+(j+1) * 3+1,none⟩ = some (.string xs[j+1].value):=by rw [Nat.add_assoc];exact hc 1 _ rfl
     have q2:wr.cell? ⟨b,o+(j+1) * 3+2,none⟩ = some (.int .i64 xs[j+1].effect):=by rw [Nat.add_assoc];exact hc 2 _ rfl
     clear hc
     obtain ⟨b',o',TY,Xw,e,Ht,hbs',hr',zQ,hc'⟩:=Sl.get (Sl.ext (w':=wr) (c:=c) h hbl) (show j < xs.length by omega)
     obtain ⟨jU,abT,vC,rP,uY⟩:=oK hr'
     subst jU
     obtain ⟨rfl,rfl⟩:b' = b∧o' = o:=by simpa using e.symm
     clear e
     have p0:wr.cell? ⟨b',o'+j * 3,none⟩ = some (.string xs[j].key):=by exact hc' 0 _ rfl
     have p1:wr.cell? ⟨b',o'+j * 3+1,none⟩ = some (.string xs[j].value):=by rw [Nat.add_assoc];exact hc' 1 _ rfl
     have p2:wr.cell? ⟨b',o'+j * 3+2,none⟩ = some (.int .i64 xs[j].effect):=by rw [Nat.add_assoc];exact hc' 2 _ rfl
     clear hc'
     have hwj:IntKind.i64.wrap (j:Int) = j:=IntWalk.i64_in _ (by omega)
     have hjl:j < xs.length:=by omega
     have hs1:=(Eo.out xs[j+1] (List.getElem_mem ..)).1
     have hs2:=(Eo.out xs[j+1] (List.getElem_mem ..)).2
     subst su
     have hr0:=hr
     cases h1:Dp xs[j+1] <;> cases h3:qo xs[j] xs[j+1]
     all_goals
      have hp:=yS (ok:=Dp) (less:=qo) hlt
      rw [h1,h3] at hp
      try simp only [Bool.false_and,Bool.and_false,Bool.and_true,Bool.and_self] at hp
      change rowAt Dp qo xs _ = _ at hp
      have H1:=Lib.hid h1
      first
       | have HN:=Lib.hid (gq hall.out hp)
       | have HF:=Lib.hid (wU (most:=4) hlt hp)
      have hC:∀wq,Below wr.heap.size wr wq→Calls Tryz.prog 119 #[.agg #[.string xs[j].key,.string xs[j].value,.int .i64 xs[j].effect],.agg #[.string xs[j+1].key,.string xs[j+1].value,.int .i64 xs[j+1].effect]] wq fun e w'=>e = .returned (.bool (qo xs[j] xs[j+1]))∧Below wq.heap.size wq w' :=
       fun wq hq=>anf xs[j] xs[j+1] _ _ _ _ _ (aJ hr' hq) (aJ hr0 hq)
      rw [h3] at hC
      have CMP:=Lib.hid hC
      clear hC
      clear h1 hp
      go_wp2_with fail
      refine aF _ (by kernel_rfl) (by kernel_rfl) (aj _) ?_
      repeat (first
       | (apply aG
          case hw=>rfl
          simp only [Act.put,pz])
       | (apply aH
          case hw=>rfl
          case h =>
           intro wq hq
           have hcq:=(aB hq).1
           have lJ:=(aB hq).2
           go_simp
           first
            | exact ⟨hq,rfl⟩
            | exact ⟨aQ hq _,rfl⟩
            | (first | (refine (Wh xs[j+1] _ [] _ (aJ hr0 ave) hs1 hs2).mono ?_;rw [H1.out];rintro e w2 ⟨rfl,hb2⟩;exact ⟨rfl,aI hq hb2⟩) | (refine (CMP.out _ aut).mono ?_;rintro e w2 ⟨rfl,hb2⟩;exact ⟨rfl,aI hq hb2⟩))
            | (simp only [↓IntWalk.iteOmega];exact ⟨hq,rfl⟩)
          simp only [Act.put,pz]))
      refine aN ?_
      intro wn hn
      replace hn:=hn.out
      go_wp2
      first
       | exact ⟨⟨j+1+1,by omega,by go_num,HN.out,ah hbl hn⟩,by simp [intOf];omega⟩
       | (go_ret;exact ⟨by unfold La;rw [HF.out];rfl,ah hbl hn⟩)
   ·have hkl:k = xs.length:=by omega
    subst hkl
    have HF:=Lib.hid (Jy hm hall.out)
    go_wp2
    go_ret
    exact ⟨by unfold La;rw [HF.out];rfl,hbl⟩
 ·have HF:=Lib.hid (Jz (ok:=Dp) (less:=qo) hm)
  go_enter Tryz.func79,Tryz.ntmps79
  go_wp2
  go_ret
  exact ⟨by unfold La;rw [HF.out];rfl,atS⟩
end Go.Proofs.YtogkjlcoadhpgaaGreat
