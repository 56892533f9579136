/- UsedOn, of the program and of the reference. No condition. -/
import Derived.Test.YtkjeocdobidadaaGreatInsP
import Derived.Test.YtkjeocdobidadaaGreatCmp2
namespace Go.Proofs.YtkjeocdobidadaaGreat
open Go.ChangeShapes Go.WideShapes Go.ChangeAt Go.RowKit
set_option linter.unusedVariables false
set_option linter.unusedSimpArgs false
set_option maxHeartbeats 2000000
set_option maxRecDepth 100000
def onP (nm:ByteArray) (p:Placed):Bool:=!(nm.toList == [])&&(p.on.toList == nm.toList)
def F7 (nm:ByteArray) (xs:List Placed):List nI:=(xs.filter (onP nm)).map Placed.aS
theorem ae8 {nm:ByteArray} {xs:List Placed} {k:Nat} (h:k < xs.length) (hp:onP nm xs[k] = true):F7 nm (xs.take (k+1)) = F7 nm (xs.take k)++[xs[k].aS]:=by
 unfold F7;rw [List.take_succ_eq_append_getElem h,List.filter_append,List.map_append];simp [hp]
theorem YC {nm:ByteArray} {xs:List Placed} {k:Nat} (h:k < xs.length) (hp:onP nm xs[k] = false):F7 nm (xs.take (k+1)) = F7 nm (xs.take k):=by
 unfold F7;rw [List.take_succ_eq_append_getElem h,List.filter_append,List.map_append];simp [hp]
theorem NK (nm:ByteArray) (xs:List Placed):(F7 nm xs).length≤xs.length:=by unfold F7;rw [List.length_map];exact List.length_filter_le _ _
theorem acI (nm:ByteArray) (xs:List Placed) (k:Nat):(F7 nm (xs.take k)).length≤k:=Nat.le_trans (NK _ _) avI
theorem ajl (nm:ByteArray) (xs:List Placed) (h:nm.toList = []):F7 nm xs = []:=by
 unfold F7 onP;simp [h]
def KF (nm:ByteArray) (xs:List Placed):Value :=
 match vU (F7 nm xs) with
 | some (a,b)=>.tuple #[.int .i64 a,.int .i64 b,.int .i64 (F7 nm xs).length,.bool true]
 | none=>.tuple #[.int .i64 0,.int .i64 0,.int .i64 0,.bool false]
theorem asM:(Tryz.prog.info? 39).map (fun i=>(i.zero,i.size,i.bytes)) = some (some (.agg #[.string ⟨#[]⟩,.slice none 0 0,.int .i64 0,.int .i64 0,.int .i64 0,.slice none 0 0,.slice none 0 0]),7,112):=by kernel_rfl
theorem asN:DL Tryz.prog 89 39 (.agg #[.string ⟨#[]⟩,.slice none 0 0,.int .i64 0,.int .i64 0,.int .i64 0,.slice none 0 0,.slice none 0 0]) 7 112:=⟨Tryz.underlying89,asM,rfl,O'⟩
theorem iQ (x:aU) (cs:List Value) (F:List Nat) (nm:ByteArray) (w:World) (h:rd w x cs F) (hl:(x.au.length:Int)≤1048576) :
 Calls Tryz.prog 12 #[.agg cs.toArray,.string nm] w fun e w'=>e = .returned (KF nm x.au)∧Below w.heap.size w w':=by
 obtain ⟨bG,bD,fQ,dn,bW,jg,hck,qp,bQ,dM,hnext,aV,aP,aW⟩:=aO h;subst hck;clear qp;go_enter Tryz.func12,Tryz.ntmps12;go_wp2_with fail
 go_loopw [8,18] (fun v i wr=>∃(k:Nat) (ds:List Value) (G:List Nat),k≤x.au.length∧i = .int .i64 k∧wr.ownsRow (w.heap.size+1) 39 7 v (F7 nm (x.au.take k)).length ds∧jo w (F7 nm (x.au.take k)) ds G∧wr.cell? ⟨w.heap.size,1,none⟩ = some (.slice dn x.au.length bW)∧Below w.heap.size w wr) (fun _ i _=>x.au.length - (intOf i).toNat)
 case atStart =>exact Zaco
 case round =>
  obtain ⟨k,ds,G,hk,rfl,hown,hcs,hqc,hbl⟩:=hrel;have hqz:w.heap.size < wr.heap.size:=World.block_lt_of_cell? wr _ hqc;by_cases hlt:k < x.au.length
  ·have hol:=acI nm x.au k;have hnq:some w.heap.size≠u8.ownBlock:=(by intro e;have:=hown.lt _ e.symm;omega);obtain ⟨b,o,ck,Fk,rfl,o9,hbs,hr,hsub,hc⟩:=Sl.get (α:=Placed) (A:=dn) (c:=bW) dM hlt;obtain ⟨c1,c2,F1,F2,rfl,rfl,QS,_,_,_,_,rfl,rfl,⟨rfl,rfl,hon⟩,⟨rfl,rfl,hseq⟩⟩:=hr;have abj:=QS;obtain ⟨gV,gW,lF,iR,iT,mV,dD,dF,iH,hck,su,nY,iE,rF,rG,oZ,je,dN⟩:=dL QS;subst hck;clear su QS iE je dN;have q0:w.cell? ⟨b,o+k * 9,none⟩ = some (.string x.au[k].aS.name):=(by exact hc 0 _ rfl);have q1:w.cell? ⟨b,o+k * 9+1,none⟩ = some (.slice gV x.au[k].aS.labels.length gW):=(by rw [Nat.add_assoc];exact hc 1 _ rfl);have q2:w.cell? ⟨b,o+k * 9+2,none⟩ = some (.int .i64 x.au[k].aS.cpu):=(by rw [Nat.add_assoc];exact hc 2 _ rfl);have q3:w.cell? ⟨b,o+k * 9+3,none⟩ = some (.int .i64 x.au[k].aS.mem):=(by rw [Nat.add_assoc];exact hc 3 _ rfl);have q4:w.cell? ⟨b,o+k * 9+4,none⟩ = some (.int .i64 x.au[k].aS.rank):=(by rw [Nat.add_assoc];exact hc 4 _ rfl);have q5:w.cell? ⟨b,o+k * 9+5,none⟩ = some (.slice iR x.au[k].aS.needs.length iT):=(by rw [Nat.add_assoc];exact hc 5 _ rfl);have q6:w.cell? ⟨b,o+k * 9+6,none⟩ = some (.slice dD x.au[k].aS.tolerances.length dF):=(by rw [Nat.add_assoc];exact hc 6 _ rfl);have q7:w.cell? ⟨b,o+k * 9+7,none⟩ = some (.string x.au[k].on):=(by rw [Nat.add_assoc];exact hc 7 _ rfl);have q8:w.cell? ⟨b,o+k * 9+8,none⟩ = some (.int .i64 x.au[k].seq):=(by rw [Nat.add_assoc];exact hc 8 _ rfl);clear hc;replace q0:=((ay hbl).1 b _ hbs).trans q0;replace q1:=((ay hbl).1 b _ hbs).trans q1;replace q2:=((ay hbl).1 b _ hbs).trans q2;replace q3:=((ay hbl).1 b _ hbs).trans q3;replace q4:=((ay hbl).1 b _ hbs).trans q4;replace q5:=((ay hbl).1 b _ hbs).trans q5;replace q6:=((ay hbl).1 b _ hbs).trans q6;replace q7:=((ay hbl).1 b _ hbs).trans q7;replace q8:=((ay hbl).1 b _ hbs).trans q8;cases hs1:(nm.toList == []) <;> cases hs2:(x.au[k].on.toList == nm.toList)
   all_goals
    have hp:onP nm x.au[k] = _:=avV;simp only [Bool.not_true,Bool.not_false,Bool.true_and,Bool.false_and] at hp;have HP:=I' hp;clear hp
    go_wp2_with (
     at_builtin
     go_must (refine lC asN J' _ _ J' _ _ _ _ _ (hown.alloc _) J' [.string x.au[k].aS.name,.slice gV x.au[k].aS.labels.length gW,.int .i64 x.au[k].aS.cpu,.int .i64 x.au[k].aS.mem,.int .i64 x.au[k].aS.rank,.slice iR x.au[k].aS.needs.length iT,.slice dD x.au[k].aS.tolerances.length dF] aue J' aub O' O' avJ ?_)
     intro v2 w2 hown2 hg2 hz2;go_must (have hb2:Below w.heap.size w w2:=lS (B:=w.heap.size) ((vP hown (Nat.le_succ _)).alloc _) hg2 (ak hbl _) avK)
     go_must (have alJ:=hg2.cell ((World.cell?_of_block (heap_alloc_old wr _ O')).trans hqc) hnq))
    first
     | exact ⟨⟨k+1,_,_,O',N',(by rw [YC hlt HP.out];exact hown),awK,hqc,hbl⟩,by simp [intOf];omega⟩
     | exact ⟨⟨k+1,_,_,O',N',(by rw [ae8 hlt HP.out,List.length_append];exact hown2),(by rw [ae8 hlt HP.out];exact hcs.append (.single abj)),alJ,hb2⟩,by simp [intOf];omega⟩
     | exact ⟨⟨k+1,_,_,O',N',(by rw [YC hlt HP.out];exact hown.alloc _),awK,(World.cell?_of_block (heap_alloc_old wr _ O')).trans hqc,ak hbl _⟩,by simp [intOf];omega⟩
  ·have hkl:k = x.au.length:=O';subst hkl;rw [List.take_length] at hown hcs;obtain ⟨Al,cl,Gl,rfl,hsl⟩:=Sl.oJ hown (hcs.frame (fun b hb=>hbl.block b (hcs.lt b hb)) hbl.size);have hol:=NK nm x.au;clear hown hcs;rcases hr1:vU (F7 nm x.au) with _ | ⟨a,b⟩
   all_goals
    have hfin:KF nm x.au = _:=awh;have HF:=I' hfin;have R1:=I' hr1;clear hr1 hfin;go_wp2_with fail
    refine (am9 (F7 nm x.au) Al _ cl Gl _ hsl rfl O').mono ?_;rw [R1.out];simp only [am8];rintro e w2 ⟨rfl,hb2⟩;go_wp2;go_returns
    exact ⟨by rw [HF.out],ah hbl hb2⟩
theorem jm (x:aU) (cs:List Value) (F:List Nat) (nm:ByteArray) (w:World) (h:rd w x cs F) (hl:(x.au.length:Int)≤1048576) :
 Calls Tryz.prog 86 #[.agg cs.toArray,.string nm] w fun e w'=>e = .returned (KF nm x.au)∧Below w.heap.size w w':=by
 obtain ⟨bG,bD,fQ,dn,bW,jg,hck,qp,bQ,dM,hnext,aV,aP,aW⟩:=aO h;subst hck;clear qp;go_enter Tryz.func86,Tryz.ntmps86;go_wp2_with fail
 go_loopw [8,9] (fun v i wr=>∃(k:Nat) (ds:List Value) (G:List Nat),k≤x.au.length∧i = .int .i64 k∧wr.ownsRow (w.heap.size+1) 39 7 v (F7 nm (x.au.take k)).length ds∧jo w (F7 nm (x.au.take k)) ds G∧wr.cell? ⟨w.heap.size,1,none⟩ = some (.slice dn x.au.length bW)∧Below w.heap.size w wr) (fun _ i _=>x.au.length - (intOf i).toNat)
 case atStart =>exact Zaco
 case round =>
  obtain ⟨k,ds,G,hk,rfl,hown,hcs,hqc,hbl⟩:=hrel;have hqz:w.heap.size < wr.heap.size:=World.block_lt_of_cell? wr _ hqc;cases hs1:(nm.toList == []) with
  | true =>
    have he:nm.toList = []:=(by simpa using hs1);rw [ajl nm _ he,← ajl nm x.au he] at hown hcs;by_cases hlt:k < x.au.length
    all_goals
     obtain ⟨Al,cl,Gl,rfl,hsl⟩:=Sl.oJ hown (hcs.frame (fun b hb=>hbl.block b (hcs.lt b hb)) hbl.size);have hol:=NK nm x.au;clear hown hcs;rcases hr1:vU (F7 nm x.au) with _ | ⟨a,b⟩
     all_goals
      have hfin:KF nm x.au = _:=awh;have HF:=I' hfin;have R1:=I' hr1;clear hr1 hfin;go_wp2_with fail
      refine (ad8 (F7 nm x.au) Al _ cl Gl _ hsl rfl O').mono ?_;rw [R1.out];simp only [am8];rintro e w2 ⟨rfl,hb2⟩;go_wp2;go_returns
      exact ⟨by rw [HF.out],ah hbl hb2⟩
  | false =>
    by_cases hlt:k < x.au.length
    ·have hol:=acI nm x.au k;have hnq:some w.heap.size≠u8.ownBlock:=(by intro e;have:=hown.lt _ e.symm;omega);obtain ⟨b,o,ck,Fk,rfl,o9,hbs,hr,hsub,hc⟩:=Sl.get (α:=Placed) (A:=dn) (c:=bW) dM hlt;obtain ⟨c1,c2,F1,F2,rfl,rfl,QS,_,_,_,_,rfl,rfl,⟨rfl,rfl,hon⟩,⟨rfl,rfl,hseq⟩⟩:=hr;have abj:=QS;obtain ⟨gV,gW,lF,iR,iT,mV,dD,dF,iH,hck,su,nY,iE,rF,rG,oZ,je,dN⟩:=dL QS;subst hck;clear su QS iE je dN;have q0:w.cell? ⟨b,o+k * 9,none⟩ = some (.string x.au[k].aS.name):=(by exact hc 0 _ rfl);have q1:w.cell? ⟨b,o+k * 9+1,none⟩ = some (.slice gV x.au[k].aS.labels.length gW):=(by rw [Nat.add_assoc];exact hc 1 _ rfl);have q2:w.cell? ⟨b,o+k * 9+2,none⟩ = some (.int .i64 x.au[k].aS.cpu):=(by rw [Nat.add_assoc];exact hc 2 _ rfl);have q3:w.cell? ⟨b,o+k * 9+3,none⟩ = some (.int .i64 x.au[k].aS.mem):=(by rw [Nat.add_assoc];exact hc 3 _ rfl);have q4:w.cell? ⟨b,o+k * 9+4,none⟩ = some (.int .i64 x.au[k].aS.rank):=(by rw [Nat.add_assoc];exact hc 4 _ rfl);have q5:w.cell? ⟨b,o+k * 9+5,none⟩ = some (.slice iR x.au[k].aS.needs.length iT):=(by rw [Nat.add_assoc];exact hc 5 _ rfl);have q6:w.cell? ⟨b,o+k * 9+6,none⟩ = some (.slice dD x.au[k].aS.tolerances.length dF):=(by rw [Nat.add_assoc];exact hc 6 _ rfl);have q7:w.cell? ⟨b,o+k * 9+7,none⟩ = some (.string x.au[k].on):=(by rw [Nat.add_assoc];exact hc 7 _ rfl);have q8:w.cell? ⟨b,o+k * 9+8,none⟩ = some (.int .i64 x.au[k].seq):=(by rw [Nat.add_assoc];exact hc 8 _ rfl);clear hc;replace q0:=((ay hbl).1 b _ hbs).trans q0;replace q1:=((ay hbl).1 b _ hbs).trans q1;replace q2:=((ay hbl).1 b _ hbs).trans q2;replace q3:=((ay hbl).1 b _ hbs).trans q3;replace q4:=((ay hbl).1 b _ hbs).trans q4;replace q5:=((ay hbl).1 b _ hbs).trans q5;replace q6:=((ay hbl).1 b _ hbs).trans q6;replace q7:=((ay hbl).1 b _ hbs).trans q7;replace q8:=((ay hbl).1 b _ hbs).trans q8;cases hs2:(x.au[k].on.toList == nm.toList)
     all_goals
      have hp:onP nm x.au[k] = _:=avV;simp only [Bool.not_true,Bool.not_false,Bool.true_and,Bool.false_and] at hp;have HP:=I' hp;clear hp
      go_wp2_with (
       at_builtin
       go_must (refine lC asN J' _ _ J' _ _ _ _ _ hown J' [.string x.au[k].aS.name,.slice gV x.au[k].aS.labels.length gW,.int .i64 x.au[k].aS.cpu,.int .i64 x.au[k].aS.mem,.int .i64 x.au[k].aS.rank,.slice iR x.au[k].aS.needs.length iT,.slice dD x.au[k].aS.tolerances.length dF] aue J' aub O' O' avJ ?_)
       intro v2 w2 hown2 hg2 hz2;go_must (have hb2:Below w.heap.size w w2:=lS (vP hown (Nat.le_succ _)) hg2 hbl hbl.size)
       go_must (have alJ:=hg2.cell hqc hnq))
      first
       | exact ⟨⟨k+1,_,_,O',N',(by rw [YC hlt HP.out];exact hown),awK,hqc,hbl⟩,by simp [intOf];omega⟩
       | exact ⟨⟨k+1,_,_,O',N',(by rw [ae8 hlt HP.out,List.length_append];exact hown2),(by rw [ae8 hlt HP.out];exact hcs.append (.single abj)),alJ,hb2⟩,by simp [intOf];omega⟩
       | exact ⟨⟨k+1,_,_,O',N',(by rw [YC hlt HP.out];exact hown.alloc _),awK,(World.cell?_of_block (heap_alloc_old wr _ O')).trans hqc,ak hbl _⟩,by simp [intOf];omega⟩
    ·have hkl:k = x.au.length:=O';subst hkl;rw [List.take_length] at hown hcs;obtain ⟨Al,cl,Gl,rfl,hsl⟩:=Sl.oJ hown (hcs.frame (fun b hb=>hbl.block b (hcs.lt b hb)) hbl.size);have hol:=NK nm x.au;clear hown hcs;rcases hr1:vU (F7 nm x.au) with _ | ⟨a,b⟩
     all_goals
      have hfin:KF nm x.au = _:=awh;have HF:=I' hfin;have R1:=I' hr1;clear hr1 hfin;go_wp2_with fail
      refine (ad8 (F7 nm x.au) Al _ cl Gl _ hsl rfl O').mono ?_;rw [R1.out];simp only [am8];rintro e w2 ⟨rfl,hb2⟩;go_wp2;go_returns
      exact ⟨by rw [HF.out],ah hbl hb2⟩
theorem akQ {x y:Need} (h:(x.key.toList == y.key.toList) = false):nD x y = Op.bytesLess x.key.toList y.key.toList:=by
 have h1:Lib.compareBytes x.key.data.toList y.key.data.toList≠0:=fun e=>by
  exact Zac4
 unfold nD W9;simp only [Qa,if_neg h1];exact Zac0
theorem amw {x y:Need} (hk:(x.key.toList == y.key.toList) = true) (h:x.op≠y.op):nD x y = decide (x.op < y.op):=by
 have h0:Lib.compareBytes x.key.data.toList y.key.data.toList = 0:=by rw [J5,← ByteArray.toList_eq,← ByteArray.toList_eq];simpa using hk
 have h1:Lib.compareInt x.op y.op≠0:=by unfold Lib.compareInt;repeat' split <;> omega
 unfold nD W9;simp only [Qa,if_pos h0,if_neg h1];exact Zadm
theorem aeD {x y:Need} (hk:(x.key.toList == y.key.toList) = true) (h:x.op = y.op):nD x y = decide (qW x.values y.values < 0):=by
 have h0:Lib.compareBytes x.key.data.toList y.key.data.toList = 0:=by rw [J5,← ByteArray.toList_eq,← ByteArray.toList_eq];simpa using hk
 have h1:Lib.compareInt x.op y.op = 0:=by unfold Lib.compareInt;repeat' split <;> omega
 unfold nD W9;simp only [Qa,if_pos h0,if_pos h1];by_cases h2:qW x.values y.values = 0
 ·rw [if_pos h2,h2]
 ·rw [if_neg h2]
theorem TN (x y:Need) (cs ds:List Value) (F G:List Nat) (w:World) (h:rd w x cs F) (h':rd w y ds G) (hl:(x.values.length:Int)≤1048576) (hl':(y.values.length:Int)≤1048576) :
 Calls Tryz.prog 125 #[.agg cs.toArray,.agg ds.toArray] w fun e w'=>e = .returned (.bool (nD x y))∧Below w.heap.size w w':=by
 obtain ⟨pX,pY,KG,hck,hF1,xO,hop1,wO⟩:=og h;obtain ⟨qO,qP,KL,jU,hF2,vC,hop2,zS⟩:=og h';subst hck jU;cases h1:(x.key.toList == y.key.toList) with
 | false =>rw [akQ h1];go_enter Tryz.func125,Tryz.ntmps125;exact Zacf
 | true =>
   by_cases h3:x.op = y.op
   ·have hfin:=aeD h1 h3;have HF:=I' hfin;clear hfin;have h4:(x.op == y.op) = true:=(by simp [h3]);go_enter Tryz.func125,Tryz.ntmps125;go_wp2;go_loopw [5] (fun i wr=>∃k:Nat,k≤x.values.length∧i = .int .i64 k∧Hid (k≤y.values.length)∧Hid (qW x.values y.values = qW (x.values.drop k) (y.values.drop k))∧wr.cell? ⟨w.heap.size,2,none⟩ = some (.slice pX x.values.length pY)∧wr.cell? ⟨w.heap.size+1,2,none⟩ = some (.slice qO y.values.length qP)∧Below w.heap.size w wr) (fun i _=>x.values.length - (intOf i).toNat)
    case atStart =>
     refine ⟨0,Nat.zero_le _,rfl,Nat.zero_le _,rfl,?_,?_,atS⟩
     ·exact Zacu
     ·simp
    case round =>
     obtain ⟨k,hk,rfl,HK,HO,hx1,hx2,hbl⟩:=hrel;have hky:=HK.out;have hz1:=World.block_lt_of_cell? wr _ hx1;have hz2:=World.block_lt_of_cell? wr _ hx2;simp only at hz1 hz2;by_cases hlt:k < x.values.length
     ·by_cases hly:k < y.values.length
      ·obtain ⟨b,o,ck,Fk,rfl,o9,hbs,hr,hsub,hc⟩:=(Sl.ext (w':=wr) (A:=pX) (c:=pY) wO hbl).get hlt;obtain ⟨hck,su,hsz⟩:=hr;subst hck su;have q0:wr.cell? ⟨b,o+k,none⟩ = some (.string x.values[k]):=(by have:=hc 0 _ rfl;rwa [show o+(k * Dat.size ByteArray+0) = o+k from by show o+(k * 1+0) = _;omega] at this);clear hc;obtain ⟨b2,o2,ck2,Fk2,rfl,hbF2,uO,hr2,hsub2,hc2⟩:=(Sl.ext (w':=wr) (A:=qO) (c:=qP) zS hbl).get hly;obtain ⟨hck,su,hsz2⟩:=hr2;subst hck su;have p0:wr.cell? ⟨b2,o2+k,none⟩ = some (.string y.values[k]):=(by have:=hc2 0 _ rfl;rwa [show o2+(k * Dat.size ByteArray+0) = o2+k from by show o2+(k * 1+0) = _;omega] at this);clear hc2;have hd:=ab5 hlt hly;cases he:(x.values[k].toList == y.values[k].toList) with
       | true =>
         have h0:Lib.compareBytes x.values[k].data.toList y.values[k].data.toList = 0:=(by rw [J5,← ByteArray.toList_eq,← ByteArray.toList_eq];simpa using he);rw [if_pos h0] at hd;have HN:=I' (HO.out.trans hd);clear hd h0;go_wp2_with fail
         refine aF _ U' U' (aj _) ?_
         repeat (first
          | (apply aG
             case hw=>rfl
             simp only [Act.put,pz])
          | (apply aH
             case hw=>rfl
             case h =>exact Zaaj
             simp only [Act.put,pz]))
         refine aN ?_;intro wn hn;replace hn:=hn.out;replace hx1:=((ay hn).1 _ _ hz1).trans hx1;replace hx2:=((ay hn).1 _ _ hz2).trans hx2;replace q0:=((ay hn).1 _ _ hbs).trans q0;replace p0:=((ay hn).1 _ _ uO).trans p0;replace hz1:=Nat.lt_of_lt_of_le hz1 hn.size;replace hz2:=Nat.lt_of_lt_of_le hz2 hn.size;replace hbs:=Nat.lt_of_lt_of_le hbs hn.size;replace uO:=Nat.lt_of_lt_of_le uO hn.size;replace hbl:=ah hbl hn;go_wp2;exact ⟨⟨k+1,O',N',by show k+1≤y.values.length;omega,HN.out,hx1,hx2,hbl⟩,by simp [intOf];omega⟩
       | false =>
         have h0:Lib.compareBytes x.values[k].data.toList y.values[k].data.toList≠0:=fun e=>by
          rw [J5,← ByteArray.toList_eq,← ByteArray.toList_eq] at e;simp [e] at he
         rw [if_neg h0] at hd;have hg:nD x y = Op.bytesLess x.values[k].toList y.values[k].toList:=by rw [HF.out,HO.out,hd,Bool.eq_iff_iff,decide_eq_true_eq,Wx,ByteArray.toList_eq,ByteArray.toList_eq]
         have HG:=I' hg;clear hd h0 hg;go_wp2_with fail
         refine aF _ U' U' (aj _) ?_
         repeat (first
          | (apply aG
             case hw=>rfl
             simp only [Act.put,pz])
          | (apply aH
             case hw=>rfl
             case h =>exact Zaaj
             simp only [Act.put,pz]))
         refine aN ?_;intro wn hn;replace hn:=hn.out;replace hx1:=((ay hn).1 _ _ hz1).trans hx1;replace hx2:=((ay hn).1 _ _ hz2).trans hx2;replace q0:=((ay hn).1 _ _ hbs).trans q0;replace p0:=((ay hn).1 _ _ uO).trans p0;replace hz1:=Nat.lt_of_lt_of_le hz1 hn.size;replace hz2:=Nat.lt_of_lt_of_le hz2 hn.size;replace hbs:=Nat.lt_of_lt_of_le hbs hn.size;replace uO:=Nat.lt_of_lt_of_le uO hn.size;replace hbl:=ah hbl hn;clear hn;go_wp2_with fail
         first
          | (go_ret;exact ⟨by rw [HG.out];first | rfl | simp_all,hbl⟩)
          | (refine aF _ U' U' (aj _) ?_
             repeat (first
              | (apply aG
                 case hw=>rfl
                 simp only [Act.put,pz])
              | (apply aH
                 case hw=>rfl
                 case h =>exact Zaaj
                 simp only [Act.put,pz]))
             refine aN ?_;intro wn2 hn2;replace hn2:=hn2.out;go_wp2;go_ret
             exact ⟨by rw [HG.out];first | rfl | simp_all,ah hbl hn2⟩)
      ·have hg:nD x y = false:=(by rw [HF.out,HO.out,ab6 hlt O'];rfl);have HG:=I' hg;have hli:¬(x.values.length:Int) < y.values.length:=O';clear hg;exact Zad1
     ·have hkl:k = x.values.length:=O';subst hkl;have he:=HO.out.trans (adS (Nat.le_refl _));by_cases hly:x.values.length < y.values.length
      ·rw [if_pos hly] at he;have hg:nD x y = true:=(by rw [HF.out,he];rfl);have HG:=I' hg;have hli:(x.values.length:Int) < y.values.length:=O';clear hg he;exact Zad1
      ·rw [if_neg hly] at he;have hg:nD x y = false:=(by rw [HF.out,he];rfl);have HG:=I' hg;have hli:¬(x.values.length:Int) < y.values.length:=O';clear hg he;exact Zad1
   ·rw [amw h1 h3];have h4:(x.op == y.op) = false:=(by simp [h3]);go_enter Tryz.func125,Tryz.ntmps125;exact Zacf
def aag (a b:Bool):Int:=if a == b then 0 else if b then -1 else 1
theorem anp (a b:Bool):-1≤aag a b∧aag a b≤1:=by cases a <;> cases b <;> decide
theorem adw (a b:Bool) (w:World):Calls Tryz.prog 199 #[.bool a,.bool b] w fun e w'=>e = .returned (.int .i64 (aag a b))∧w' = w:=by
 cases a <;> cases b
 all_goals
  go_enter Tryz.func199,Tryz.ntmps199;go_wp2;go_ret
  exact ⟨rfl,rfl⟩
theorem Sl.ints4 (W:World) (a b c d:Int) (t:TypeId) (ha:I64 a) (hb:I64 b) (hc:I64 c) (hd:I64 d) (N:Nat) (hN:W.heap.size = N):Sl (W.alloc (.cells #[.int .i64 a,.int .i64 b,.int .i64 c,.int .i64 d] t)) [a,b,c,d] (some ⟨N,0,none⟩) 4 [N]:=by
 subst hN;exact Sl.Va W [a,b,c,d] t (by intro x hx;simp only [List.mem_cons,List.not_mem_nil,or_false] at hx;rcases hx with rfl | rfl | rfl | rfl <;> assumption) (by unfold maxLen;simp)
def anq (x y:bH):List Int:=[Lib.compareBytes x.key.data.toList y.key.data.toList,aag x.equal y.equal,Lib.compareBytes x.value.data.toList y.value.data.toList,Lib.compareInt x.effect y.effect]
theorem compareTolerances_gr (x y:bH) (cs ds:List Value) (F G:List Nat) (w:World) (h:rd w x cs F) (h':rd w y ds G) :
 Calls Tryz.prog 159 #[.agg cs.toArray,.agg ds.toArray] w fun e w'=>e = .returned (.int .i64 (Qa (anq x y)))∧Gr w w':=by
 obtain ⟨hck,hF1,xO,xk,zT⟩:=jv h;obtain ⟨jU,hF2,vC,rP,uY⟩:=jv h';subst hck jU;subst hF1 hF2;have hr1:=qj x.key.data.toList y.key.data.toList;have hr4:=anp x.equal y.equal;have hr2:=qj x.value.data.toList y.value.data.toList;have hr3:=BU x.effect y.effect;go_enter Tryz.func159,Tryz.ntmps159;go_wp2_with fail
 refine nS ((w.alloc (.cells #[.string x.key,.bool x.equal,.string x.value,.int .i64 x.effect] 148)).alloc (.cells #[.string y.key,.bool y.equal,.string y.value,.int .i64 y.effect] 148)) [0,1,2,3,5,6,7,8,10,11,12,13,15,16,17,18] [4,9,14,19,20,21,22] U' U' (fun _ _ d _ _ h=>by cases d <;> exact h) (aj _) ?_;simp only [pick,List.getElem?_cons_succ,List.getElem?_cons_zero]
 iterate 16
  (apply dR
   case hy =>exact Zady
   simp only [Act.put,pz])
 refine fE ?_;have hbx:=aA (aj ((w.alloc (.cells #[.string x.key,.bool x.equal,.string x.value,.int .i64 x.effect] 148)).alloc (.cells #[.string y.key,.bool y.equal,.string y.value,.int .i64 y.effect] 148)));refine aK rfl (fun K hK=>?_);go_simp;refine (N8 x.key y.key _).mono ?_;rintro e wz ⟨rfl,hw⟩;simp only [hw];clear hw wz;refine hK _ _ hbx (fun _=>?_);try simp only [Act.put,pz]
 clear hK K;refine aK rfl (fun K hK=>?_);go_simp;refine (adw x.equal y.equal _).mono ?_;rintro e wz ⟨rfl,hw⟩;simp only [hw];clear hw wz;refine hK _ _ hbx (fun _=>?_);try simp only [Act.put,pz]
 clear hK K;refine aK rfl (fun K hK=>?_);go_simp;refine (N8 x.value y.value _).mono ?_;rintro e wz ⟨rfl,hw⟩;simp only [hw];clear hw wz;refine hK _ _ hbx (fun _=>?_);try simp only [Act.put,pz]
 clear hK K;refine aK rfl (fun K hK=>?_);go_simp;refine (EI x.effect y.effect _).mono ?_;rintro e wz ⟨rfl,hw⟩;simp only [hw];clear hw wz;refine hK _ _ hbx (fun _=>?_);try simp only [Act.put,pz]
 clear hK K;refine aK rfl (fun K hK=>?_);go_simp;replace hbx:=ak hbx (.cells #[.int .i64 (Lib.compareBytes x.key.data.toList y.key.data.toList),.int .i64 (aag x.equal y.equal),.int .i64 (Lib.compareBytes x.value.data.toList y.value.data.toList),.int .i64 (Lib.compareInt x.effect y.effect)] 3);refine hK _ _ hbx (fun _=>?_);try simp only [Act.put,pz]
 clear hK K;have hS:=Sl.ape (Sl.ints4 ((w.alloc (.cells #[.string x.key,.bool x.equal,.string x.value,.int .i64 x.effect] 148)).alloc (.cells #[.string y.key,.bool y.equal,.string y.value,.int .i64 y.effect] 148)) _ _ _ _ 3 (I64.small hr1) (I64.small hr4) (I64.small hr2) (I64.small hr3) (w.heap.size+2) S');refine aK rfl (fun K hK=>?_);go_simp;refine (afl _ _ 4 _ _ _ hS rfl S').mono ?_;rintro e wz ⟨rfl,hw⟩;simp only [hw];clear hw wz;refine hK _ _ hbx (fun _=>?_);try simp only [Act.put,pz]
 clear hK K;refine aK rfl (fun K hK=>?_);go_simp;refine hK _ _ hbx (fun _=>?_);try simp only [Act.put,pz]
 clear hK K;refine dX ?_;go_wp2;go_ret
 exact ⟨rfl,(by repeat (first | with_reducible exact Gr.refl _ | with_reducible refine Gr.alloc ?_ _ | with_reducible refine Gr.drew ?_))⟩
theorem Xd (x y:bH) (cs ds:List Value) (F G:List Nat) (w:World) (h:rd w x cs F) (h':rd w y ds G) :
 Calls Tryz.prog 159 #[.agg cs.toArray,.agg ds.toArray] w fun e w'=>e = .returned (.int .i64 (Qa (anq x y)))∧Below w.heap.size w w' :=
 (compareTolerances_gr x y cs ds F G w h h').mono fun _ _ hh=>⟨hh.1,hh.2.below⟩
def vJ (x y:bH):Bool:=decide (Qa (anq x y) < 0)
theorem anr {x y:bH} (h:(x.key.toList == y.key.toList) = false):vJ x y = Op.bytesLess x.key.toList y.key.toList:=by
 have h1:Lib.compareBytes x.key.data.toList y.key.data.toList≠0:=fun e=>by
  exact Zac4
 unfold vJ anq;simp only [Qa,if_neg h1];exact Zac0
theorem aiA {x y:bH} (hk:(x.key.toList == y.key.toList) = true) (h:x.equal≠y.equal):vJ x y = y.equal:=by
 have h0:Lib.compareBytes x.key.data.toList y.key.data.toList = 0:=by rw [J5,← ByteArray.toList_eq,← ByteArray.toList_eq];simpa using hk
 unfold vJ anq;simp only [Qa,if_pos h0];cases hx:x.equal <;> cases hy:y.equal <;> simp_all [aag]
theorem aiB {x y:bH} (hk:(x.key.toList == y.key.toList) = true) (hq:x.equal = y.equal) (h:(x.value.toList == y.value.toList) = false):vJ x y = Op.bytesLess x.value.toList y.value.toList:=by
 have h0:Lib.compareBytes x.key.data.toList y.key.data.toList = 0:=by rw [J5,← ByteArray.toList_eq,← ByteArray.toList_eq];simpa using hk
 have h1:Lib.compareBytes x.value.data.toList y.value.data.toList≠0:=fun e=>by
  exact Zac4
 have h2:aag x.equal y.equal = 0:=by unfold aag;simp [hq]
 unfold vJ anq;simp only [Qa,if_pos h0,if_pos h2,if_neg h1];exact Zac0
theorem ahL {x y:bH} (hk:(x.key.toList == y.key.toList) = true) (hq:x.equal = y.equal) (h:(x.value.toList == y.value.toList) = true):vJ x y = decide (x.effect < y.effect):=by
 have h0:Lib.compareBytes x.key.data.toList y.key.data.toList = 0:=by rw [J5,← ByteArray.toList_eq,← ByteArray.toList_eq];simpa using hk
 have h1:Lib.compareBytes x.value.data.toList y.value.data.toList = 0:=by rw [J5,← ByteArray.toList_eq,← ByteArray.toList_eq];simpa using h
 have h2:aag x.equal y.equal = 0:=by unfold aag;simp [hq]
 unfold vJ anq;simp only [Qa,if_pos h0,if_pos h2,if_pos h1];exact Zadm
theorem aiC (x y:bH) (cs ds:List Value) (F G:List Nat) (w:World) (h:rd w x cs F) (h':rd w y ds G) :
 Calls Tryz.prog 127 #[.agg cs.toArray,.agg ds.toArray] w fun e w'=>e = .returned (.bool (vJ x y))∧Below w.heap.size w w':=by
 obtain ⟨hck,hF1,xO,xk,zT⟩:=jv h;obtain ⟨jU,hF2,vC,rP,uY⟩:=jv h';subst hck jU;subst hF1 hF2;cases h1:(x.key.toList == y.key.toList) with
 | false =>rw [anr h1];go_enter Tryz.func127,Tryz.ntmps127;exact Zacf
 | true =>
   by_cases h3:x.equal = y.equal
   ·cases h2:(x.value.toList == y.value.toList) with
    | false =>rw [aiB h1 h3 h2];have h4:(x.equal == y.equal) = true:=(by simp [h3]);go_enter Tryz.func127,Tryz.ntmps127;exact Zacf
    | true =>rw [ahL h1 h3 h2];have h4:(x.equal == y.equal) = true:=(by simp [h3]);go_enter Tryz.func127,Tryz.ntmps127;exact Zacf
   ·rw [aiA h1 h3];have h4:(x.equal == y.equal) = false:=(by simp [h3]);go_enter Tryz.func127,Tryz.ntmps127;exact Zacf
end Go.Proofs.YtkjeocdobidadaaGreat
