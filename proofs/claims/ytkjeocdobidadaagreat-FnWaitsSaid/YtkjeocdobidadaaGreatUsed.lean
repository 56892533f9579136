/- UsedOn, of the program and of the reference. No condition. -/
import Derived.Test.YtkjeocdobidadaaGreatToBase
import Derived.Test.YtkjeocdobidadaaGreatMark
import Derived.Test.YtkjeocdobidadaaGreatLabelsOk
import Derived.Laws.IdiomCopy
namespace Go.Proofs.YtkjeocdobidadaaGreat
open Go.ChangeShapes Go.WideShapes Go.ChangeAt Go.RowKit
set_option linter.unusedVariables false
set_option linter.unusedSimpArgs false
set_option maxHeartbeats 2000000
set_option maxRecDepth 100000
def onP (nm:ByteArray) (p:Placed):Bool:=!(nm.toList == [])&&(p.on.toList == nm.toList)
def F7 (nm:ByteArray) (xs:List Placed):List nI:=(xs.filter (onP nm)).map Placed.aS
theorem ae8 {nm:ByteArray} {xs:List Placed} {k:Nat} (h:k < xs.length) (hp:onP nm xs[k] = true):F7 nm (xs.take (k+1)) = F7 nm (xs.take k)++[xs[k].aS]:=by
 unfold F7;rw [List.take_succ_eq_append_getElem h,List.filter_append,List.map_append];simp [hp]
theorem YC {nm:ByteArray} {xs:List Placed} {k:Nat} (h:k < xs.length) (hp:onP nm xs[k] = false):F7 nm (xs.take (k+1)) = F7 nm (xs.take k):=by
 unfold F7;rw [List.take_succ_eq_append_getElem h,List.filter_append,List.map_append];simp [hp]
theorem NK (nm:ByteArray) (xs:List Placed):(F7 nm xs).length≤xs.length:=by unfold F7;rw [List.length_map];exact List.length_filter_le _ _
theorem acI (nm:ByteArray) (xs:List Placed) (k:Nat):(F7 nm (xs.take k)).length≤k:=Nat.le_trans (NK _ _) avI
theorem ajl (nm:ByteArray) (xs:List Placed) (h:nm.toList = []):F7 nm xs = []:=by
 unfold F7 onP;simp [h]
def KF (nm:ByteArray) (xs:List Placed):Value :=
 match vU (F7 nm xs) with
 | some (a,b)=>.tuple #[.int .i64 a,.int .i64 b,.int .i64 (F7 nm xs).length,.bool true]
 | none=>.tuple #[.int .i64 0,.int .i64 0,.int .i64 0,.bool false]
theorem asM:(Tryz.prog.info? 39).map (fun i=>(i.zero,i.size,i.bytes)) = some (some (.agg #[.string ⟨#[]⟩,.slice none 0 0,.int .i64 0,.int .i64 0,.int .i64 0,.slice none 0 0,.slice none 0 0]),7,112):=by kernel_rfl
theorem asN:DL Tryz.prog 89 39 (.agg #[.string ⟨#[]⟩,.slice none 0 0,.int .i64 0,.int .i64 0,.int .i64 0,.slice none 0 0,.slice none 0 0]) 7 112:=⟨Tryz.underlying89,asM,rfl,O'⟩
theorem iQ (x:aU) (cs:List Value) (F:List Nat) (nm:ByteArray) (w:World) (h:rd w x cs F) (hl:(x.au.length:Int)≤1048576) :
 Calls Tryz.prog 12 #[.agg cs.toArray,.string nm] w fun e w'=>e = .returned (KF nm x.au)∧Below w.heap.size w w':=by
 obtain ⟨bG,bD,fQ,dn,bW,jg,hck,qp,bQ,dM,hnext,aV,aP,aW⟩:=aO h;subst hck;clear qp;go_enter Tryz.func12,Tryz.ntmps12;go_wp2_with fail
 go_loopw [8,18] (fun v i wr=>∃(k:Nat) (ds:List Value) (G:List Nat),k≤x.au.length∧i = .int .i64 k∧wr.ownsRow (w.heap.size+1) 39 7 v (F7 nm (x.au.take k)).length ds∧jo w (F7 nm (x.au.take k)) ds G∧wr.cell? ⟨w.heap.size,1,none⟩ = some (.slice dn x.au.length bW)∧Below w.heap.size w wr) (fun _ i _=>x.au.length - (intOf i).toNat)
 case atStart =>exact Zacl
 case round =>
  obtain ⟨k,ds,G,hk,rfl,hown,hcs,hqc,hbl⟩:=hrel;have hqz:w.heap.size < wr.heap.size:=World.block_lt_of_cell? wr _ hqc;by_cases hlt:k < x.au.length
  ·have hol:=acI nm x.au k;have hnq:some w.heap.size≠u8.ownBlock:=(by intro e;have:=hown.lt _ e.symm;omega);obtain ⟨b,o,ck,Fk,rfl,o9,hbs,hr,hsub,hc⟩:=Sl.get (α:=Placed) (A:=dn) (c:=bW) dM hlt;obtain ⟨c1,c2,F1,F2,rfl,rfl,QS,_,_,_,_,rfl,rfl,⟨rfl,rfl,hon⟩,⟨rfl,rfl,hseq⟩⟩:=hr;have abj:=QS;obtain ⟨gV,gW,lF,iR,iT,mV,dD,dF,iH,hck,su,nY,iE,rF,rG,oZ,je,dN⟩:=dL QS;subst hck;clear su QS iE je dN;have q0:w.cell? ⟨b,o+k * 9,none⟩ = some (.string x.au[k].aS.name):=(by exact hc 0 _ rfl);have q1:w.cell? ⟨b,o+k * 9+1,none⟩ = some (.slice gV x.au[k].aS.labels.length gW):=(by rw [Nat.add_assoc];exact hc 1 _ rfl);have q2:w.cell? ⟨b,o+k * 9+2,none⟩ = some (.int .i64 x.au[k].aS.cpu):=(by rw [Nat.add_assoc];exact hc 2 _ rfl);have q3:w.cell? ⟨b,o+k * 9+3,none⟩ = some (.int .i64 x.au[k].aS.mem):=(by rw [Nat.add_assoc];exact hc 3 _ rfl);have q4:w.cell? ⟨b,o+k * 9+4,none⟩ = some (.int .i64 x.au[k].aS.rank):=(by rw [Nat.add_assoc];exact hc 4 _ rfl);have q5:w.cell? ⟨b,o+k * 9+5,none⟩ = some (.slice iR x.au[k].aS.needs.length iT):=(by rw [Nat.add_assoc];exact hc 5 _ rfl);have q6:w.cell? ⟨b,o+k * 9+6,none⟩ = some (.slice dD x.au[k].aS.tolerances.length dF):=(by rw [Nat.add_assoc];exact hc 6 _ rfl);have q7:w.cell? ⟨b,o+k * 9+7,none⟩ = some (.string x.au[k].on):=(by rw [Nat.add_assoc];exact hc 7 _ rfl);have q8:w.cell? ⟨b,o+k * 9+8,none⟩ = some (.int .i64 x.au[k].seq):=(by rw [Nat.add_assoc];exact hc 8 _ rfl);clear hc;replace q0:=((ay hbl).1 b _ hbs).trans q0;replace q1:=((ay hbl).1 b _ hbs).trans q1;replace q2:=((ay hbl).1 b _ hbs).trans q2;replace q3:=((ay hbl).1 b _ hbs).trans q3;replace q4:=((ay hbl).1 b _ hbs).trans q4;replace q5:=((ay hbl).1 b _ hbs).trans q5;replace q6:=((ay hbl).1 b _ hbs).trans q6;replace q7:=((ay hbl).1 b _ hbs).trans q7;replace q8:=((ay hbl).1 b _ hbs).trans q8;cases hs1:(nm.toList == []) <;> cases hs2:(x.au[k].on.toList == nm.toList)
   all_goals
    have hp:onP nm x.au[k] = _:=avV;simp only [Bool.not_true,Bool.not_false,Bool.true_and,Bool.false_and] at hp;have HP:=I' hp;clear hp
    go_wp2_with (
     at_builtin
     go_must (refine lC asN J' _ _ J' _ _ _ _ _ (hown.alloc _) J' [.string x.au[k].aS.name,.slice gV x.au[k].aS.labels.length gW,.int .i64 x.au[k].aS.cpu,.int .i64 x.au[k].aS.mem,.int .i64 x.au[k].aS.rank,.slice iR x.au[k].aS.needs.length iT,.slice dD x.au[k].aS.tolerances.length dF] aue J' aub O' O' avJ ?_)
     intro v2 w2 hown2 hg2 hz2;go_must (have hb2:Below w.heap.size w w2:=lS (B:=w.heap.size) ((vP hown (Nat.le_succ _)).alloc _) hg2 (ak hbl _) avK)
     go_must (have alJ:=hg2.cell ((World.cell?_of_block (heap_alloc_old wr _ O')).trans hqc) hnq))
    first
     | exact ⟨⟨k+1,_,_,O',N',(by rw [YC hlt HP.out];exact hown),awK,hqc,hbl⟩,by simp [intOf];omega⟩
     | exact ⟨⟨k+1,_,_,O',N',(by rw [ae8 hlt HP.out,List.length_append];exact hown2),(by rw [ae8 hlt HP.out];exact hcs.append (.single abj)),alJ,hb2⟩,by simp [intOf];omega⟩
     | exact ⟨⟨k+1,_,_,O',N',(by rw [YC hlt HP.out];exact hown.alloc _),awK,(World.cell?_of_block (heap_alloc_old wr _ O')).trans hqc,ak hbl _⟩,by simp [intOf];omega⟩
  ·have hkl:k = x.au.length:=O';subst hkl;rw [List.take_length] at hown hcs;obtain ⟨Al,cl,Gl,rfl,hsl⟩:=Sl.oJ hown (hcs.frame (fun b hb=>hbl.block b (hcs.lt b hb)) hbl.size);have hol:=NK nm x.au;clear hown hcs;rcases hr1:vU (F7 nm x.au) with _ | ⟨a,b⟩
   all_goals
    have hfin:KF nm x.au = _:=awh;have HF:=I' hfin;have R1:=I' hr1;clear hr1 hfin;go_wp2_with fail
    refine (am9 (F7 nm x.au) Al _ cl Gl _ hsl rfl O').mono ?_;rw [R1.out];simp only [am8];rintro e w2 ⟨rfl,hb2⟩;go_wp2;go_returns
    exact ⟨by rw [HF.out],ah hbl hb2⟩
theorem jm (x:aU) (cs:List Value) (F:List Nat) (nm:ByteArray) (w:World) (h:rd w x cs F) (hl:(x.au.length:Int)≤1048576) :
 Calls Tryz.prog 86 #[.agg cs.toArray,.string nm] w fun e w'=>e = .returned (KF nm x.au)∧Below w.heap.size w w':=by
 obtain ⟨bG,bD,fQ,dn,bW,jg,hck,qp,bQ,dM,hnext,aV,aP,aW⟩:=aO h;subst hck;clear qp;go_enter Tryz.func86,Tryz.ntmps86;go_wp2_with fail
 go_loopw [8,9] (fun v i wr=>∃(k:Nat) (ds:List Value) (G:List Nat),k≤x.au.length∧i = .int .i64 k∧wr.ownsRow (w.heap.size+1) 39 7 v (F7 nm (x.au.take k)).length ds∧jo w (F7 nm (x.au.take k)) ds G∧wr.cell? ⟨w.heap.size,1,none⟩ = some (.slice dn x.au.length bW)∧Below w.heap.size w wr) (fun _ i _=>x.au.length - (intOf i).toNat)
 case atStart =>exact Zacl
 case round =>
  obtain ⟨k,ds,G,hk,rfl,hown,hcs,hqc,hbl⟩:=hrel;have hqz:w.heap.size < wr.heap.size:=World.block_lt_of_cell? wr _ hqc;cases hs1:(nm.toList == []) with
  | true =>
    have he:nm.toList = []:=(by simpa using hs1);rw [ajl nm _ he,← ajl nm x.au he] at hown hcs;by_cases hlt:k < x.au.length
    all_goals
     obtain ⟨Al,cl,Gl,rfl,hsl⟩:=Sl.oJ hown (hcs.frame (fun b hb=>hbl.block b (hcs.lt b hb)) hbl.size);have hol:=NK nm x.au;clear hown hcs;rcases hr1:vU (F7 nm x.au) with _ | ⟨a,b⟩
     all_goals
      have hfin:KF nm x.au = _:=awh;have HF:=I' hfin;have R1:=I' hr1;clear hr1 hfin;go_wp2_with fail
      refine (ad8 (F7 nm x.au) Al _ cl Gl _ hsl rfl O').mono ?_;rw [R1.out];simp only [am8];rintro e w2 ⟨rfl,hb2⟩;go_wp2;go_returns
      exact ⟨by rw [HF.out],ah hbl hb2⟩
  | false =>
    by_cases hlt:k < x.au.length
    ·have hol:=acI nm x.au k;have hnq:some w.heap.size≠u8.ownBlock:=(by intro e;have:=hown.lt _ e.symm;omega);obtain ⟨b,o,ck,Fk,rfl,o9,hbs,hr,hsub,hc⟩:=Sl.get (α:=Placed) (A:=dn) (c:=bW) dM hlt;obtain ⟨c1,c2,F1,F2,rfl,rfl,QS,_,_,_,_,rfl,rfl,⟨rfl,rfl,hon⟩,⟨rfl,rfl,hseq⟩⟩:=hr;have abj:=QS;obtain ⟨gV,gW,lF,iR,iT,mV,dD,dF,iH,hck,su,nY,iE,rF,rG,oZ,je,dN⟩:=dL QS;subst hck;clear su QS iE je dN;have q0:w.cell? ⟨b,o+k * 9,none⟩ = some (.string x.au[k].aS.name):=(by exact hc 0 _ rfl);have q1:w.cell? ⟨b,o+k * 9+1,none⟩ = some (.slice gV x.au[k].aS.labels.length gW):=(by rw [Nat.add_assoc];exact hc 1 _ rfl);have q2:w.cell? ⟨b,o+k * 9+2,none⟩ = some (.int .i64 x.au[k].aS.cpu):=(by rw [Nat.add_assoc];exact hc 2 _ rfl);have q3:w.cell? ⟨b,o+k * 9+3,none⟩ = some (.int .i64 x.au[k].aS.mem):=(by rw [Nat.add_assoc];exact hc 3 _ rfl);have q4:w.cell? ⟨b,o+k * 9+4,none⟩ = some (.int .i64 x.au[k].aS.rank):=(by rw [Nat.add_assoc];exact hc 4 _ rfl);have q5:w.cell? ⟨b,o+k * 9+5,none⟩ = some (.slice iR x.au[k].aS.needs.length iT):=(by rw [Nat.add_assoc];exact hc 5 _ rfl);have q6:w.cell? ⟨b,o+k * 9+6,none⟩ = some (.slice dD x.au[k].aS.tolerances.length dF):=(by rw [Nat.add_assoc];exact hc 6 _ rfl);have q7:w.cell? ⟨b,o+k * 9+7,none⟩ = some (.string x.au[k].on):=(by rw [Nat.add_assoc];exact hc 7 _ rfl);have q8:w.cell? ⟨b,o+k * 9+8,none⟩ = some (.int .i64 x.au[k].seq):=(by rw [Nat.add_assoc];exact hc 8 _ rfl);clear hc;replace q0:=((ay hbl).1 b _ hbs).trans q0;replace q1:=((ay hbl).1 b _ hbs).trans q1;replace q2:=((ay hbl).1 b _ hbs).trans q2;replace q3:=((ay hbl).1 b _ hbs).trans q3;replace q4:=((ay hbl).1 b _ hbs).trans q4;replace q5:=((ay hbl).1 b _ hbs).trans q5;replace q6:=((ay hbl).1 b _ hbs).trans q6;replace q7:=((ay hbl).1 b _ hbs).trans q7;replace q8:=((ay hbl).1 b _ hbs).trans q8;cases hs2:(x.au[k].on.toList == nm.toList)
     all_goals
      have hp:onP nm x.au[k] = _:=avV;simp only [Bool.not_true,Bool.not_false,Bool.true_and,Bool.false_and] at hp;have HP:=I' hp;clear hp
      go_wp2_with (
       at_builtin
       go_must (refine lC asN J' _ _ J' _ _ _ _ _ hown J' [.string x.au[k].aS.name,.slice gV x.au[k].aS.labels.length gW,.int .i64 x.au[k].aS.cpu,.int .i64 x.au[k].aS.mem,.int .i64 x.au[k].aS.rank,.slice iR x.au[k].aS.needs.length iT,.slice dD x.au[k].aS.tolerances.length dF] aue J' aub O' O' avJ ?_)
       intro v2 w2 hown2 hg2 hz2;go_must (have hb2:Below w.heap.size w w2:=lS (vP hown (Nat.le_succ _)) hg2 hbl hbl.size)
       go_must (have alJ:=hg2.cell hqc hnq))
      first
       | exact ⟨⟨k+1,_,_,O',N',(by rw [YC hlt HP.out];exact hown),awK,hqc,hbl⟩,by simp [intOf];omega⟩
       | exact ⟨⟨k+1,_,_,O',N',(by rw [ae8 hlt HP.out,List.length_append];exact hown2),(by rw [ae8 hlt HP.out];exact hcs.append (.single abj)),alJ,hb2⟩,by simp [intOf];omega⟩
       | exact ⟨⟨k+1,_,_,O',N',(by rw [YC hlt HP.out];exact hown.alloc _),awK,(World.cell?_of_block (heap_alloc_old wr _ O')).trans hqc,ak hbl _⟩,by simp [intOf];omega⟩
    ·have hkl:k = x.au.length:=O';subst hkl;rw [List.take_length] at hown hcs;obtain ⟨Al,cl,Gl,rfl,hsl⟩:=Sl.oJ hown (hcs.frame (fun b hb=>hbl.block b (hcs.lt b hb)) hbl.size);have hol:=NK nm x.au;clear hown hcs;rcases hr1:vU (F7 nm x.au) with _ | ⟨a,b⟩
     all_goals
      have hfin:KF nm x.au = _:=awh;have HF:=I' hfin;have R1:=I' hr1;clear hr1 hfin;go_wp2_with fail
      refine (ad8 (F7 nm x.au) Al _ cl Gl _ hsl rfl O').mono ?_;rw [R1.out];simp only [am8];rintro e w2 ⟨rfl,hb2⟩;go_wp2;go_returns
      exact ⟨by rw [HF.out],ah hbl hb2⟩
instance:Dat UInt8 where
 size:=1
 pos:=by omega
 rd _ n cs F:=cs = [.int .u8 (n.toNat:Int)]∧F = []
 len h:=by rw [h.1];rfl
 one h:=by rw [h.1];intro u hu;simp at hu;subst hu;rfl
 lt h:=by rw [h.2];intro b hb;cases hb
 frame h _ _:=h
theorem opens_u8 {P:Program} {t:TypeId} (ht:P.underlying t = some (.int .u8)):Opens P t UInt8:=by
 intro H enc w base fuel spare held cs d h;obtain ⟨n,rfl,_,hw⟩:=DataW.trod_int ht h;have h2:0≤n∧n≤255:=by
  have:=hw;simp [Lit.wf,IntKind.min,IntKind.max,IntKind.signed,IntKind.bits] at this;exact this
 refine ⟨UInt8.ofNat n.toNat,[],?_,rfl⟩;have e:((UInt8.ofNat n.toNat).toNat:Int) = n:=by
  have h3:(UInt8.ofNat n.toNat).toNat = n.toNat % 256:=by simp
  rw [h3];omega
 rw [e]
def DCur (w:World) (c:Nat) (A:Option Addr) (n cap:Nat):Prop :=
 (∃(i h:Int) (t:TypeId),w.heap[c]? = some (.cells #[.slice A n cap,.int .i64 i,.int .i64 h] t (0,0))∧(0≤i∧i≤n)∧I64 h) ∧
 (∀k,k < n→∃(g o:Nat) (v:Int),A = some ⟨g,o,none⟩∧g < c∧w.cell? ⟨g,o+k,none⟩ = some (.int .u8 v)∧0≤v∧v≤255)∧(n:Int)≤1048576
section
variable {w w':World} {c:Nat} {A:Option Addr} {n cap:Nat}
theorem DCur.lt (h:DCur w c A n cap):c < w.heap.size:=by
 obtain ⟨⟨i,x,t,h,_⟩,_⟩:=h;rcases Nat.lt_or_ge c w.heap.size with hlt | hge
 ·exact hlt
 ·rw [Array.getElem?_eq_none hge] at h;cases h
theorem DCur.ext (h:DCur w c A n cap) (hb:Below w.heap.size w w'):DCur w' c A n cap:=by
 have hlt:=h.lt;obtain ⟨⟨i,x,t,h1,h2⟩,h3,h4⟩:=h;refine ⟨⟨i,x,t,(hb.block c hlt).trans h1,h2⟩,fun k hk=>?_,h4⟩;obtain ⟨g,o,v,e,hg,hc,hv⟩:=h3 k hk;exact ⟨g,o,v,e,hg,(World.cell?_of_block (hb.block g O')).trans hc,hv⟩
theorem DCur.drew (h:DCur w c A n cap):DCur w.drew c A n cap:=h.ext (aA (aj _))
theorem DCur.far (h:DCur w c A n cap) {b:Nat} (hb:c < b) (i:Nat) (u:Value):DCur (w.setCell ⟨b,i,none⟩ u) c A n cap:=by
 obtain ⟨⟨j,x,t,h1,h2⟩,h3,h4⟩:=h;refine ⟨⟨j,x,t,(Below.heap_setCell _ _ _ _ atX).trans h1,h2⟩,fun k hk=>?_,h4⟩;exact Zac4
theorem DCur.place (h:DCur w c A n cap) {i:Int} (hi:0≤i∧i≤n):DCur (w.setCell ⟨c,1,none⟩ (.int .i64 i)) c A n cap:=by
 obtain ⟨⟨j,x,t,h1,h2⟩,h3,h4⟩:=h;refine ⟨⟨i,x,t,by simp [World.setCell,Array.getElem?_modify,h1],hi,h2.2⟩,fun k hk=>?_,h4⟩;exact Zac4
theorem DCur.number (h:DCur w c A n cap) {x:Int} (hx:I64 x):DCur (w.setCell ⟨c,2,none⟩ (.int .i64 x)) c A n cap:=by
 obtain ⟨⟨j,y,t,h1,h2⟩,h3,h4⟩:=h;refine ⟨⟨j,x,t,by simp [World.setCell,Array.getElem?_modify,h1],h2.1,hx⟩,fun k hk=>?_,h4⟩;exact Zac4
theorem DCur.cells (h:DCur w c A n cap):∃i x:Int,(0≤i∧i≤n)∧I64 x∧w.cell? ⟨c,0,none⟩ = some (.slice A n cap)∧w.cell? ⟨c,1,none⟩ = some (.int .i64 i)∧w.cell? ⟨c,2,none⟩ = some (.int .i64 x)∧∀k,w.frozen? ⟨c,k,none⟩ = false:=by
 obtain ⟨⟨i,x,t,h,h2⟩,_⟩:=h;refine ⟨i,x,h2.1,h2.2,?_,?_,?_,fun k=>by simp [World.frozen?,h]⟩
 ·rw [cell_of_row w c 0 _ t (0,0) h];rfl
 ·rw [cell_of_row w c 1 _ t (0,0) h];rfl
 ·rw [cell_of_row w c 2 _ t (0,0) h];rfl
theorem DCur.byte (h:DCur w c A n cap) {k:Nat} (hk:k < n):∃(g o:Nat) (v:Int),A = some ⟨g,o,none⟩∧g < c∧w.cell? ⟨g,o+k,none⟩ = some (.int .u8 v)∧0≤v∧v≤255:=h.2.1 k hk
theorem DCur.small (h:DCur w c A n cap):(n:Int)≤1048576:=h.2.2
end
theorem setCells_size (b:Nat):∀(vs:List Value) (o:Nat) (w:World),(w.setCells b o vs).heap.size = w.heap.size
 | [],_,_=>rfl
 | v :: r,o,w=>by rw [World.setCells,setCells_size b r];simp [World.setCell]
theorem vV (b:Nat) {k:Nat} (hk:k≠b):∀(vs:List Value) (o:Nat) (w:World),(w.setCells b o vs).heap[k]? = w.heap[k]?
 | [],_,_=>rfl
 | v :: r,o,w=>by rw [World.setCells,vV b hk r];exact Below.heap_setCell _ _ _ _ atX
theorem F8 (b:Nat):∀(vs:List Value) (o:Nat) (w:World),(w.setCells b o vs).os = w.os∧(w.setCells b o vs).tape = w.tape∧(w.setCells b o vs).output = w.output
 | [],_,_=>⟨rfl,rfl,rfl⟩
 | v :: r,o,w=>by rw [World.setCells];exact F8 b r (o+1) _
theorem EK (b:Nat):∀(vs:List Value) (o:Nat) (w:World),Plain w b→Plain (w.setCells b o vs) b
 | [],_,_,h=>h
 | v :: r,o,w,h=>by rw [World.setCells];exact EK b r (o+1) _ (h.setCell b o v)
def oG (w:World) (g:Nat) (cs:List Value):Prop:=∃t,w.heap[g]? = some (.cells cs.toArray t (0,0))
section
variable {w w':World} {g:Nat} {cs:List Value}
theorem oG.lt (h:oG w g cs):g < w.heap.size:=by
 obtain ⟨t,h⟩:=h;rcases Nat.lt_or_ge g w.heap.size with hlt | hge
 ·exact hlt
 ·rw [Array.getElem?_eq_none hge] at h;cases h
theorem oG.cell (h:oG w g cs) {i:Nat} {u:Value} (hi:cs[i]? = some u):w.cell? ⟨g,i,none⟩ = some u:=by
 obtain ⟨t,h⟩:=h;rw [cell_of_row w g i _ t (0,0) h];simpa using hi
theorem oG.fz (h:oG w g cs) (i:Nat):w.frozen? ⟨g,i,none⟩ = false:=by obtain ⟨t,h⟩:=h;simp [World.frozen?,h]
theorem oG.keep (h:oG w g cs) (hk:w'.heap[g]? = w.heap[g]?):oG w' g cs:=by obtain ⟨t,h⟩:=h;exact ⟨t,hk.trans h⟩
theorem oG.put (h:oG w g cs) (i:Nat) (u:Value):oG (w.setCell ⟨g,i,none⟩ u) g (cs.set i u):=by
 obtain ⟨t,h⟩:=h;exact ⟨t,by simp [World.setCell,Array.getElem?_modify,h]⟩
theorem oG.far (h:oG w g cs) {c:Nat} (hc:c≠g) (i:Nat) (u:Value):oG (w.setCell ⟨c,i,none⟩ u) g cs:=h.keep (Below.heap_setCell _ _ _ _ atX)
theorem oG.new (w:World) (cs:List Value) (t:TypeId):oG (w.alloc (.cells cs.toArray t)) w.heap.size cs:=⟨t,heap_alloc_new w _⟩
theorem oG.ext (h:oG w g cs) (hb:Below w.heap.size w w'):oG w' g cs:=h.keep (hb.block g h.lt)
theorem oG.upd {b:Nat} (h:oG w g cs) (hu:nN [b] w w') (hg:g≠b):oG w' g cs:=h.keep (hu.block g h.lt (by simpa using hg))
end
structure Cq3 (w wk:World) (cs zs os:List Value):Prop where
 box:oG wk w.heap.size cs
 rb:oG wk (w.heap.size+1) zs
 ob:oG wk (w.heap.size+1+1) os
 below:Below w.heap.size w wk
section
variable {w wk w':World} {cs zs os:List Value}
theorem Cq3.new (w:World) (cs zs os:List Value) (t t2 t3:TypeId):Cq3 w (((w.alloc (.cells cs.toArray t)).alloc (.cells zs.toArray t2)).alloc (.cells os.toArray t3)) cs zs os :=
 ⟨((oG.new w cs t).ext (ak (aj _) _)).ext (ak (aj _) _),(by have:=oG.new (w.alloc (.cells cs.toArray t)) zs t2;rw [World.size_alloc] at this;exact this.ext (ak (aj _) _)),(by have:=oG.new ((w.alloc (.cells cs.toArray t)).alloc (.cells zs.toArray t2)) os t3;rw [World.size_alloc,World.size_alloc] at this;exact this),ak (ak (ak (aj _) _) _) _⟩
theorem Cq3.ext (h:Cq3 w wk cs zs os) (hb:Below wk.heap.size wk w'):Cq3 w w' cs zs os:=⟨h.box.ext hb,h.rb.ext hb,h.ob.ext hb,ah h.below hb⟩
theorem Cq3.put (h:Cq3 w wk cs zs os) (i:Nat) (u:Value):Cq3 w (wk.setCell ⟨w.heap.size+1+1,i,none⟩ u) cs zs (os.set i u):=⟨h.box.far O' i u,h.rb.far O' i u,h.ob.put i u,aC h.below atX u⟩
end
theorem rd_extN {α:Type} [Dat α] {w w':World} {x:α} {cs:List Value} {F:List Nat} (h:rd w x cs F) (hb:Below w.heap.size w w'):rd w' x cs F:=Dat.frame h (fun b hb'=>hb.block b (Dat.lt h b hb')) hb.size
theorem and_mask (a:Int) (m:Nat) (hm:m < 9223372036854775808):0≤bits .and .i64 a (m:Int)∧bits .and .i64 a (m:Int)≤m:=by
 have h2:(BitVec.ofInt 64 (m:Int)).toNat = m:=by rw [BitVec.ofInt_natCast,BitVec.toNat_ofNat];exact Nat.mod_eq_of_lt O'
 have h3:(BitVec.ofInt 64 a &&& BitVec.ofInt 64 (m:Int)).toNat≤m:=by rw [BitVec.toNat_and,h2];exact Nat.and_le_right
 have e:bits .and .i64 a (m:Int) = IntKind.i64.wrap ((BitVec.ofInt 64 a &&& BitVec.ofInt 64 (m:Int)).toNat:Int):=rfl;rw [e,IntKind.wrap_i64];omega
theorem wrap64_I64 (a:Int):I64 (wrap64 a):=by unfold wrap64 I64;omega
theorem Byte_draw (w:World) (c:Nat) (A:Option Addr) (n cap:Nat) (h:DCur w c A n cap) :
 Calls Tryz.prog 100 #[.pointer (some ⟨c,0,none⟩)] w fun e w'=>∃r:Int,e = .returned (.int .i64 r)∧(0≤r∧r≤255)∧DCur w' c A n cap∧nN [c] w w':=by
 obtain ⟨i0,x0,hi,hx,c0,c1,c2,hfz⟩:=h.cells;have hlt:=h.lt;have hf2:=hfz 2;have H:=I' h;clear h hfz hi hx;go_enter Tryz.func100,Tryz.ntmps100;go_wp2;have hu:nN [c] w (w.setCell ⟨c,2,none⟩ (.int .i64 (wrap64 (wrap64 (x0 * 6364136223846793005)+1442695040888963407)))):=(nN.refl _ _).setCell S' _;have H1:=H.out.number (x:=wrap64 (wrap64 (x0 * 6364136223846793005)+1442695040888963407)) (wrap64_I64 _);generalize w.setCell ⟨c,2,none⟩ (.int .i64 (wrap64 (wrap64 (x0 * 6364136223846793005)+1442695040888963407))) = w1 at *;clear c0 c1 c2 hf2;obtain ⟨i,x,hi,hx,c0,c1,c2,hfz⟩:=H1.cells;have hs:=H1.small;have hf1:=hfz 1;have hlt1:=H1.lt;by_cases hk:i < n
 ·obtain ⟨k,rfl⟩:∃k:Nat,i = k:=⟨i.toNat,O'⟩;obtain ⟨g,o,v,rfl,hg,hv,hv0,hv1⟩:=H1.byte (k:=k) O';replace H1:=I' H1;go_region
  obtain ⟨y,hy,hy0,hy1⟩:∃y,bits BinOp.and IntKind.i64 (bits BinOp.xor IntKind.i64 (x / 8589934592) (x / 35184372088832)) 255 = y∧0≤y∧y≤255:=⟨_,rfl,and_mask _ 255 (by decide)⟩;simp only [hy];clear hy;go_wp2;go_region
  go_wp2;go_region
  go_wp2;go_ret
  exact ⟨_,rfl,and_mask _ 255 (by decide),(H1.out.place O').drew.drew.drew,((hu.setCell S' _).drew.drew.drew)⟩
 ·replace H1:=I' H1;go_region
  obtain ⟨y,hy,hy0,hy1⟩:∃y,bits BinOp.and IntKind.i64 (bits BinOp.xor IntKind.i64 (x / 8589934592) (x / 35184372088832)) 255 = y∧0≤y∧y≤255:=⟨_,rfl,and_mask _ 255 (by decide)⟩;simp only [hy];clear hy;go_wp2;go_region
  go_wp2;go_ret
  exact ⟨_,rfl,⟨hy0,hy1⟩,H1.out.drew.drew,hu.drew.drew⟩
theorem Below_draw (m:Nat) (hm:0 < m∧(m:Int)≤1000000000) (w:World) (c:Nat) (A:Option Addr) (n cap:Nat) (h:DCur w c A n cap) :
 Calls Tryz.prog 48 #[.pointer (some ⟨c,0,none⟩),.int .i64 m] w fun e w'=>∃r:Nat,e = .returned (.int .i64 r)∧r < m∧DCur w' c A n cap∧nN [c] w w':=by
 obtain ⟨hm0,hm1⟩:=hm;have hlt:=h.lt;have HC:=I' h;clear h;by_cases hs:(m:Int)≤256
 ·go_enter Tryz.func48,Tryz.ntmps48;go_wp2_with fail
  refine (Byte_draw _ c A n cap HC.out).mono ?_;rintro e w1 ⟨r,rfl,⟨hr0,hr1⟩,H1,hu⟩;obtain ⟨k,rfl⟩:∃k:Nat,r = k:=⟨r.toNat,O'⟩;replace H1:=I' H1;go_wp2;go_ret
  exact ⟨k % m,S',Nat.mod_lt _ hm0,H1.out,hu⟩
 ·go_enter Tryz.func48,Tryz.ntmps48;go_wp2_with fail
  refine (Byte_draw _ c A n cap HC.out).mono ?_;rintro e w1 ⟨r1,rfl,⟨hr0,hr1⟩,H1,hu1⟩;replace H1:=I' H1;go_wp2_with fail
  refine (Byte_draw _ c A n cap H1.out).mono ?_;rintro e w2 ⟨r2,rfl,⟨hq0,hq1⟩,H2,hu2⟩;replace H2:=I' H2;go_wp2_with fail
  refine (Byte_draw _ c A n cap H2.out).mono ?_;rintro e w3 ⟨r3,rfl,⟨hs0,hs1⟩,H3,hu3⟩;replace H3:=I' H3;go_wp2_with fail
  refine (Byte_draw _ c A n cap H3.out).mono ?_;rintro e w4 ⟨r4,rfl,⟨ht0,ht1⟩,H4,Td⟩;replace H4:=I' H4;go_wp2;go_ret
  obtain ⟨q,hq⟩:∃q:Nat,r1 * 16777216+r2 * 65536+r3 * 256+r4 = q:=⟨(r1 * 16777216+r2 * 65536+r3 * 256+r4).toNat,O'⟩;exact ⟨q % m,(by simp [hq]),Nat.mod_lt _ hm0,H4.out,(hu1.trans hu2).trans (hu3.trans Td)⟩
theorem Once_draw (m:Nat) (hm:0 < m∧(m:Int)≤1000000000) (w:World) (c:Nat) (A:Option Addr) (n cap:Nat) (h:DCur w c A n cap) :
 Calls Tryz.prog 147 #[.pointer (some ⟨c,0,none⟩),.int .i64 m] w fun e w'=>∃r:Bool,e = .returned (.bool r)∧DCur w' c A n cap∧nN [c] w w':=by
 have HC:=I' h;clear h;have HM:=I' hm;clear hm;go_enter Tryz.func147,Tryz.ntmps147;go_wp2_with fail
 refine (Below_draw m HM.out _ c A n cap HC.out).mono ?_;rintro e w1 ⟨k,rfl,hk,H1,hu⟩;replace H1:=I' H1;go_wp2;go_ret
 exact ⟨_,rfl,H1.out,hu⟩
theorem Pick_draw (S:ByteArray→Prop) (g m mc:Nat) (hm:0 < m∧(m:Int)≤1000000000) (w:World) (c:Nat) (A:Option Addr) (n cap:Nat) (h:DCur w c A n cap) (hg:g≠c) (hgl:g < w.heap.size) (hS:∀k,k < m→∃s,w.cell? ⟨g,k,none⟩ = some (.string s)∧S s) :
 Calls Tryz.prog 146 #[.pointer (some ⟨c,0,none⟩),.slice (some ⟨g,0,none⟩) m mc] w fun e w'=>∃s,e = .returned (.string s)∧S s∧DCur w' c A n cap∧nN [c] w w':=by
 have HC:=I' h;clear h;have HM:=I' hm;clear hm;go_enter Tryz.func146,Tryz.ntmps146;go_wp2_with fail
 refine (Below_draw m HM.out _ c A n cap HC.out).mono ?_;rintro e w1 ⟨k,rfl,hk,H1,hu⟩;replace H1:=I' H1;obtain ⟨s,hs,hs2⟩:=hS k hk;have hki:(k:Int) < m:=by omega
 have hs1:w1.cell? ⟨g,k,none⟩ = some (.string s):=by rw [← hs];exact World.cell?_of_block (hu.block g hgl (by simpa using hg))
 go_wp2;go_ret
 exact ⟨_,rfl,hs2,H1.out,hu⟩
theorem PickInt_draw (S:Int→Prop) (g m mc:Nat) (hm:0 < m∧(m:Int)≤1000000000) (w:World) (c:Nat) (A:Option Addr) (n cap:Nat) (h:DCur w c A n cap) (hg:g≠c) (hgl:g < w.heap.size) (hS:∀k,k < m→∃s,w.cell? ⟨g,k,none⟩ = some (.int .i64 s)∧S s) :
 Calls Tryz.prog 101 #[.pointer (some ⟨c,0,none⟩),.slice (some ⟨g,0,none⟩) m mc] w fun e w'=>∃s,e = .returned (.int .i64 s)∧S s∧DCur w' c A n cap∧nN [c] w w':=by
 have HC:=I' h;clear h;have HM:=I' hm;clear hm;go_enter Tryz.func101,Tryz.ntmps101;go_wp2_with fail
 refine (Below_draw m HM.out _ c A n cap HC.out).mono ?_;rintro e w1 ⟨k,rfl,hk,H1,hu⟩;replace H1:=I' H1;obtain ⟨s,hs,hs2⟩:=hS k hk;have hki:(k:Int) < m:=by omega
 have hs1:w1.cell? ⟨g,k,none⟩ = some (.int .i64 s):=by rw [← hs];exact World.cell?_of_block (hu.block g hgl (by simpa using hg))
 go_wp2;go_ret
 exact ⟨_,rfl,hs2,H1.out,hu⟩
theorem New_draw (w:World) (A:Option Addr) (n cap:Nat) (hn:(n:Int)≤1048576) (hsrc:∀k,k < n→∃(g o:Nat) (v:Int),A = some ⟨g,o,none⟩∧g < w.heap.size∧w.cell? ⟨g,o+k,none⟩ = some (.int .u8 v)∧0≤v∧v≤255) :
 Calls Tryz.prog 47 #[.slice A n cap] w fun e w'=>∃c,e = .returned (.pointer (some ⟨c,0,none⟩))∧w.heap.size≤c∧DCur w' c A n cap∧Below w.heap.size w w':=by
 go_enter Tryz.func47,Tryz.ntmps47;go_wp2_with fail
 go_loopw [3,4] (fun x i wr=>∃(q:Int) (k:Nat),x = .int .i64 q∧i = .int .i64 k∧(0≤q∧q≤1073741823)∧k≤n∧(k:Int)≤4000∧Below w.heap.size w wr) (fun _ i _=>n - (intOf i).toNat)
 case atStart=>exact ⟨94701+n,0,au0,rfl,O',Nat.zero_le _,O',aj _⟩
 case round =>
  obtain ⟨q,k,rfl,rfl,⟨hq0,hq1⟩,hkn,hk4,hb⟩:=hrel;by_cases hk:k < n
  ·obtain ⟨g,o,v,rfl,hg,hv,hv0,hv1⟩:=hsrc k hk;have hvw:wr.cell? ⟨g,o+k,none⟩ = some (.int .u8 v):=(hb.cell (p:=⟨g,o+k,none⟩) hg).trans hv;have hb0:(n:Int)≤cap∨True:=.inr trivial;by_cases hk5:(k:Int) < 4000
   ·have hkn':(k:Int) < n:=O';go_wp2;exact ⟨⟨_,k+1,rfl,N',and_mask _ 1073741823 (by decide),O',O',hb⟩,by simp only [intOf];omega⟩
   ·have hkn':(k:Int) < n:=O';exact Zacv
  ·have hkn':¬(k:Int) < n:=O';exact Zacv
end Go.Proofs.YtkjeocdobidadaaGreat
