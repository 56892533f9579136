/- slices.Sort and slices.Compact at texts of the call's own. No condition. -/
import Derived.Test.YtkbkikggodlbbaaGreatGr
import Derived.Test.YtkbkikggodlbbaaGreatValsB
import Derived.Test.YtkbkikggodlbbaaGreatMark
import Derived.Sort.EncStr
import Derived.Test.YtkbkikggodlbbaaGreatCmp2
import Derived.Test.YtkbkikggodlbbaaGreatToBase
import Derived.Test.YtkbkikggodlbbaaGreatRegionIx
import Derived.Laws.Cover1
namespace Go.Proofs.YtkbkikggodlbbaaGreat
open Go.ChangeShapes Go.WideShapes Go.ChangeAt Go.RowKit
set_option linter.unusedVariables false
set_option linter.unusedSimpArgs false
set_option maxHeartbeats 8000000
set_option maxRecDepth 100000
theorem rdCells_str {w:World} : ∀{xs:List ByteArray} {ds:List Value} {G:List Nat},jo w xs ds G→ds = xs.map Value.string∧G = []∧∀x∈xs,x.size≤maxLen
 | [],_,_,⟨rfl,rfl⟩=>⟨rfl,rfl,fun x hx=>by cases hx⟩
 | x :: xs,_,_,⟨c1,c2,F1,F2,rfl,rfl,h0,h2⟩=>by
   obtain ⟨rfl,rfl,h1⟩:=h0;obtain ⟨rfl,rfl,h3⟩:=rdCells_str h2;refine ⟨rfl,rfl,fun y hy=>?_⟩;rcases List.mem_cons.1 hy with rfl | hy
   ·exact h1
   ·exact h3 y hy
theorem str_rdCells {w:World} : ∀{xs:List ByteArray},(∀x∈xs,x.size≤maxLen)→jo w xs (xs.map Value.string) []
 | [],_=>⟨rfl,rfl⟩
 | x :: xs,h=>⟨[.string x],_,[],[],rfl,rfl,⟨rfl,rfl,h x (List.mem_cons_self ..)⟩,str_rdCells fun y hy=>h y (List.mem_cons_of_mem _ hy)⟩
section
variable {w w':World} {B c:Nat} {xs ys:List ByteArray} {A:Option Addr} {F:List Nat}
structure StrB (w:World) (B b o c:Nat) (xs:List ByteArray):Prop where
 base:B≤b
 plain:Plain w b
 cap:xs.length≤c
 max:c≤maxLen
 size:∀x∈xs,x.size≤maxLen
 cells:∀j u,(xs.map Value.string)[j]? = some u→w.cell? ⟨b,o+j,none⟩ = some u
theorem Own.strB (h:Own w B xs [.slice A xs.length c] F) (hne:xs≠[]):∃b o,A = some ⟨b,o,none⟩∧F = [b]∧StrB w B b o c xs:=by
 obtain ⟨⟨A',c',G,ds,e0,hc1,hc2,hc,h0⟩,hn,hb,hp⟩:=h;simp only [List.cons.injEq,Value.slice.injEq,and_true,true_and] at e0;obtain ⟨rfl,rfl⟩:=e0;rcases h0 with ⟨h1,_⟩ | ⟨b,o,rfl,rfl,hlt,hcell⟩
 ·exact absurd h1 hne
 ·obtain ⟨rfl,rfl,hs⟩:=rdCells_str hc;exact ⟨b,o,rfl,rfl,hb b (List.mem_cons_self ..),hp b (List.mem_cons_self ..),hc1,hc2,hs,fun j u hj=>hcell j u hj⟩
theorem StrB.own {b o:Nat} (h:StrB w B b o c xs):Own w B xs [.slice (some ⟨b,o,none⟩) xs.length c] [b] :=
 ⟨⟨_,c,_,_,rfl,h.cap,h.max,str_rdCells h.size,.inr ⟨b,o,rfl,rfl,h.plain.lt,h.cells⟩⟩,S',(fun y hy=>by rw [List.mem_singleton.1 hy];exact h.base),(fun y hy=>by rw [List.mem_singleton.1 hy];exact h.plain)⟩
theorem str_enc (x:ByteArray):encStr x.toList = .string x:=by rw [ByteArray.toList_eq]
theorem str_dec (l:List UInt8):(⟨l.toArray⟩:ByteArray).toList = l:=by rw [ByteArray.toList_eq]
theorem StrB.holds {b o:Nat} (h:StrB w B b o c xs):Go.Sort.Holds encStr w b o (xs.map fun x=>x.toList).toArray:=by
 intro j hj;have hj2:j < xs.length:=by simpa using hj
 refine ⟨?_,h.plain.frozen _⟩;rw [h.cells j (.string xs[j]) (by rw [List.getElem?_map,List.getElem?_eq_getElem hj2];rfl)];rw [getElem!_pos _ j hj,List.getElem_toArray,List.getElem_map,str_enc]
theorem putRow_upd (enc:List UInt8→Value) (w:World) (b o n:Nat) (d:Array (List UInt8)) (os:Array Obj):nN [b] w (Go.Sort.grow (Go.Sort.putRow enc (Go.Sort.ahead w n) b o d) os):=by
 have hs:(Go.Sort.putRow enc (Go.Sort.ahead w n) b o d).heap.size = w.heap.size:=by simp [Go.Sort.putRow,Go.Sort.mapBlock,Go.Sort.ahead]
 refine ⟨rfl,rfl,rfl,?_,fun x hx hn=>?_⟩
 ·show w.heap.size≤((Go.Sort.putRow enc (Go.Sort.ahead w n) b o d).heap++os).size;rw [Array.size_append,hs];exact Nat.le_add_right _ _
 have hne:x≠b:=by simpa using hn
 show ((Go.Sort.putRow enc (Go.Sort.ahead w n) b o d).heap++os)[x]? = _;rw [Array.getElem?_append_left (by rw [hs];exact hx)];simp [Go.Sort.putRow,Go.Sort.mapBlock,Array.getElem?_modify,Ne.symm hne,Go.Sort.ahead]
theorem putRow_plain (enc:List UInt8→Value) (w:World) (b o n:Nat) (d:Array (List UInt8)) (os:Array Obj) (h:Plain w b):Plain (Go.Sort.grow (Go.Sort.putRow enc (Go.Sort.ahead w n) b o d) os) b:=by
 have hlt:=h.lt;obtain ⟨ds,t,h⟩:=h;have hs:(Go.Sort.putRow enc (Go.Sort.ahead w n) b o d).heap.size = w.heap.size:=by simp [Go.Sort.putRow,Go.Sort.mapBlock,Go.Sort.ahead]
 refine ⟨Go.Sort.putCells enc o d ds,t,?_⟩;show ((Go.Sort.putRow enc (Go.Sort.ahead w n) b o d).heap++os)[b]? = _;rw [Array.getElem?_append_left (by rw [hs];exact hlt)];simp [Go.Sort.putRow,Go.Sort.mapBlock,Array.getElem?_modify,h,Go.Sort.onCells,Go.Sort.ahead]
theorem StrB.put {b o:Nat} (h:StrB w B b o c xs) (zs rest:List (List UInt8)) (hl:zs.length+rest.length = xs.length) (hm:∀z∈zs,z∈xs.map fun x=>x.toList) (n:Nat) (os:Array Obj) :
 StrB (Go.Sort.grow (Go.Sort.putRow encStr (Go.Sort.ahead w n) b o (zs++rest).toArray) os) B b o c (zs.map fun l=>⟨l.toArray⟩):=by
 refine ⟨h.base,putRow_plain _ _ _ _ _ _ _ h.plain,by rw [List.length_map];have:=h.cap;omega,h.max,fun x hx=>?_,fun j u hj=>?_⟩
 ·obtain ⟨l,hl2,rfl⟩:=List.mem_map.1 hx;obtain ⟨y,hy,rfl⟩:=List.mem_map.1 (hm l hl2);have:=h.size y hy;rwa [show (⟨y.toList.toArray⟩:ByteArray) = y by rw [ByteArray.toList_eq]]
 ·have hjz:j < zs.length:=by have:=(List.getElem?_eq_some_iff.1 hj).1;simpa using this
  have hlt:=h.plain.lt;have hH:=Go.Sort.holds_grow encStr _ os b o _ (by simp [Go.Sort.putRow,Go.Sort.mapBlock,Go.Sort.ahead];exact hlt) (Go.Sort.holds_putRow encStr (Go.Sort.ahead w n) b o _ (zs++rest).toArray (Go.Sort.holds_ahead encStr w n b o _ h.holds) (by simp;omega));have:=(hH j (by simp;omega)).1;rw [this,getElem!_pos _ j (by simp;omega),List.getElem_toArray,List.getElem_append_left hjz];rw [List.map_map,List.getElem?_map,List.getElem?_eq_getElem hjz] at hj;exact hj
end
theorem dec_map (zs:List (List UInt8)):(zs.map fun l=>(⟨l.toArray⟩:ByteArray)).map (fun x=>x.toList) = zs:=by
 rw [List.map_map];conv=>rhs;rw [← List.map_id zs]
 exact List.map_congr_left fun l _=>str_dec l
theorem sortStr (xs:List ByteArray) (A:Option Addr) (c:Nat) (F:List Nat) (w:World) (B:Nat) (h:Own w B xs [.slice A xs.length c] F) (hl:(xs.length:Int)≤1048576) :
 Calls Tryz.prog 169 #[.slice A xs.length c] w fun e w'=>e = .returned (.tuple #[])∧∃ys:List ByteArray,ys.map (fun x=>x.toList) = (xs.map fun x=>x.toList).mergeSort (fun x y=>decide (x≤y))∧Own w' B ys [.slice A xs.length c] F∧nN F w w':=by
 by_cases hne:xs = []
 ·subst hne;refine (calls_of_every_depth fun D=>AnyS.slices_Sort_string_none_alone laySort D A c w).mono ?_;rintro e w' ⟨rfl,rfl⟩;exact ⟨rfl,[],S',h,nN.refl _ _⟩
 ·obtain ⟨b,o,rfl,rfl,S⟩:=h.strB hne;have h62:(xs.map fun x=>x.toList).length < 4611686018427387904:=by rw [List.length_map];omega
  have h0:=fun D=>AnyS.slices_Sort_string_alone laySort D b o c (xs.map fun x=>x.toList) w S.holds S.plain.lt h62;have:=calls_of_every_depth h0;rw [List.length_map] at this;refine this.mono ?_;rintro e w' ⟨rfl,n,os,rfl⟩;have hL:((xs.map fun x=>x.toList).mergeSort fun x y=>decide (x≤y)).length = xs.length:=by rw [List.length_mergeSort,List.length_map]
  have S2:=S.put ((xs.map fun x=>x.toList).mergeSort fun x y=>decide (x≤y)) [] S' (fun z hz=>List.mem_mergeSort.1 hz) n os;rw [List.append_nil] at S2;refine ⟨rfl,_,dec_map _,?_,putRow_upd _ _ _ _ _ _ _⟩;have h9:=S2.own;rwa [List.length_map,hL] at h9
theorem compStr (xs:List ByteArray) (A:Option Addr) (c:Nat) (F:List Nat) (w:World) (B:Nat) (h:Own w B xs [.slice A xs.length c] F) (hl:(xs.length:Int)≤1048576) :
 Calls Tryz.prog 170 #[.slice A xs.length c] w fun e w'=>∃ys:List ByteArray,e = .returned (.slice A ys.length c)∧ys.map (fun x=>x.toList) = Lib.compact (xs.map fun x=>x.toList)∧Own w' B ys [.slice A ys.length c] F∧nN F w w':=by
 by_cases hne:xs = []
 ·subst hne;refine (calls_of_every_depth fun D=>AnyS.slices_Compact_string_empty_in layCompact D A c w).mono ?_;rintro e w' ⟨rfl,rfl⟩;exact ⟨[],rfl,rfl,h,nN.refl _ _⟩
 ·obtain ⟨b,o,rfl,rfl,S⟩:=h.strB hne;have h63:(xs.map fun x=>x.toList).length≤9223372036854775807:=by rw [List.length_map];omega
  have hcp:(xs.map fun x=>x.toList).length≤c:=by rw [List.length_map];exact S.cap
  have h0:=fun D=>AnyS.slices_Compact_string_in layCompact D b o c (xs.map fun x=>x.toList) w S.holds h63 hcp;have:=calls_of_every_depth h0;rw [List.length_map] at this;refine this.mono ?_;rintro e w' ⟨rfl,n,rfl⟩;have hle:(Lib.compact (xs.map fun x=>x.toList)).length≤xs.length:=by
   have h9:(Lib.compact (xs.map fun x=>x.toList)).length≤(xs.map fun x=>x.toList).length:=by unfold Lib.compact Lib.compactUpTo;rw [List.length_map];exact Nat.le_trans (List.length_filter_le ..) S'
   rwa [List.length_map] at h9
  have S2:=S.put (Lib.compact (xs.map fun x=>x.toList)) (List.replicate (xs.length - (Lib.compact (xs.map fun x=>x.toList)).length) []) (by simp;omega) (fun z hz=>(mem_compact_iff _ z).1 hz) n #[];rw [show ∀W:World,Go.Sort.grow W #[] = W from fun W=>by simp [Go.Sort.grow]] at S2;refine ⟨(Lib.compact (xs.map fun x=>x.toList)).map fun l=>⟨l.toArray⟩,by rw [List.length_map],dec_map _,S2.own,?_⟩;have hu:=putRow_upd encStr w b o n (Lib.compact (xs.map fun (x:ByteArray)=>x.toList)++List.replicate (xs.length - (Lib.compact (xs.map fun (x:ByteArray)=>x.toList)).length) []).toArray #[];rwa [show ∀W:World,Go.Sort.grow W #[] = W from fun W=>by simp [Go.Sort.grow]] at hu
theorem bl_lt:∀a b:List UInt8,Op.bytesLess a b = true↔a < b
 | [],[]=>by simp [Op.bytesLess]
 | [],_ :: _=>by simp [Op.bytesLess]
 | _ :: _,[]=>by simp [Op.bytesLess]
 | x :: a,y :: b=>by rw [ak1,List.cons_lt_cons_iff,bl_lt a b]
theorem insUS_cons (x y:S8) (r:List S8):insUS x (y :: r) = if y < x then y :: insUS x r else if y = x then y :: r else x :: y :: r:=rfl
theorem insUB_cons (x y:ByteArray) (r:List ByteArray):Go.Proofs.YtkbkikggodlbbaaGreat.insU blt x (y :: r) = if blt y x then y :: Go.Proofs.YtkbkikggodlbbaaGreat.insU blt x r else if blt x y then x :: y :: r else y :: r:=rfl
theorem insU_map (x:ByteArray):∀r:List ByteArray,(Go.Proofs.YtkbkikggodlbbaaGreat.insU blt x r).map (fun x=>x.toList) = insUS x.toList (r.map fun x=>x.toList)
 | []=>rfl
 | y :: r=>by
   have hlt:∀a b:ByteArray,blt a b = true↔a.toList < b.toList:=fun a b=>bl_lt _ _;have ih:=insU_map x r;rw [insUB_cons,List.map_cons,insUS_cons];by_cases h1:blt y x = true
   ·rw [if_pos h1,if_pos ((hlt _ _).1 h1),List.map_cons,ih]
   ·rw [if_neg h1,if_neg (fun h=>h1 ((hlt _ _).2 h))];by_cases h2:blt x y = true
    ·rw [if_pos h2,if_neg (fun e=>by have h3:=(hlt _ _).1 h2;rw [e] at h3;exact absurd h3 (List.lt_irrefl _))];rfl
    ·have e:=totB.tri x y (by simpa using h2) (by simpa using h1);rw [if_neg h2,if_pos (by rw [e])];rfl
theorem uniqL_map:∀(xs acc:List ByteArray),(uniqL blt acc xs).map (fun x=>x.toList) = (xs.map fun x=>x.toList).foldl (fun r x=>insUS x r) (acc.map fun x=>x.toList)
 | [],_=>rfl
 | x :: xs,acc=>by rw [List.map_cons,List.foldl_cons,← insU_map,← uniqL_map xs];rfl
theorem toList_inj:∀{a b:List ByteArray},a.map (fun x=>x.toList) = b.map (fun x=>x.toList)→a = b
 | [],[],_=>rfl
 | [],_ :: _,h=>by simp at h
 | _ :: _,[],h=>by simp at h
 | x :: a,y :: b,h=>by
   rw [List.map_cons,List.map_cons,List.cons.injEq] at h;have e:x = y:=Ce (by rw [beq_iff_eq];exact h.1);rw [e,toList_inj h.2]
theorem vals_of {xs ys zs:List ByteArray} (h1:ys.map (fun x=>x.toList) = (xs.map fun x=>x.toList).mergeSort (fun x y=>decide (x≤y))) (h2:zs.map (fun x=>x.toList) = Lib.compact (ys.map fun x=>x.toList)):zs = valsR xs:=by
 refine toList_inj ?_;rw [h2,h1,sortU];exact (uniqL_map xs []).symm
theorem rdStr_own (D:List ByteArray) {w:World} {B e g cap:Nat} (h:w.ownsRow B e 1 (.slice (some ⟨g,0,none⟩) D.length cap) D.length (D.map Value.string)) (hr:∀x∈D,rd w x [.string x] []):∃A c G,Value.slice (some ⟨g,0,none⟩) D.length cap = .slice A D.length c∧Own w B D [.slice A D.length c] G:=by
 have hrc:∀D:List ByteArray,(∀x∈D,rd w x [.string x] [])→jo w D (D.map Value.string) []:=fun D=>by
  induction D with
  | nil=>intro _;exact ⟨rfl,rfl⟩
  | cons x D ih=>intro hD;exact ⟨[.string x],D.map Value.string,[],[],rfl,rfl,hD x (List.mem_cons_self ..),ih fun y hy=>hD y (List.mem_cons_of_mem _ hy)⟩
 exact Own.oJ h ⟨hrc D hr,List.nodup_nil,(fun b hb=>by cases hb),(fun b hb=>by cases hb)⟩ (fun g hg hm=>by cases hm)
theorem l15Values_any (xs:List ByteArray) (A:Option Addr) (c:Nat) (F:List Nat) (w:World) (h:Sl w xs A c F) (hl:(xs.length:Int)≤1048576) :
 Calls Tryz.prog 139 #[.slice A xs.length c] w fun e w'=>∃A' c' G,e = .returned (.slice A' (valsR xs).length c')∧Own w' w.heap.size (valsR xs) [.slice A' (valsR xs).length c'] G∧Below w.heap.size w w':=by
 have HRD:=I' (show ∀x∈xs,∀w':World,rd w' x [.string x] [] from fun x hx w'=>by
  obtain ⟨k,hk,rfl⟩:=List.getElem_of_mem hx;obtain ⟨b,o,ck,Fk,_,_,_,hr,_,_⟩:=h.get hk;obtain ⟨h1,h2,h3⟩:=hr
  exact ⟨rfl,rfl,h3⟩)
 go_enter Tryz.func139,Tryz.ntmps139;go_wp2_with fail
 go_loopw [3,4] (fun v i wr=>∃k N g cap:Nat,k≤xs.length∧N≤k∧i = .int .i64 (k:Int)∧v = .slice (some ⟨g,0,none⟩) N cap∧Hid ((valsR (xs.take k)).length = N)∧wr.ownsRow w.heap.size 9 1 (.slice (some ⟨g,0,none⟩) N cap) N ((valsR (xs.take k)).map Value.string)∧Below w.heap.size w wr) (fun _ i _=>xs.length - (intOf i).toNat)
 case atStart=>exact ⟨0,0,w.heap.size,0,O',Nat.le_refl _,rfl,rfl,I' rfl,D9 w 9 1 w.heap.size rfl,ak (aj _) _⟩
 case round =>
  obtain ⟨k,N,g,cap,hk,hNk,rfl,rfl,HSL,hrow,hbl⟩:=hrel;by_cases hlt:k < xs.length
  ·obtain ⟨wo,hwo⟩:∃wo,wo = wr:=⟨_,rfl⟩;subst hwo;obtain ⟨b,o,ck,Fk,hA,hbG,hbs,hrdk,_,hcells⟩:=Sl.get h hlt;subst hA;have hnx:valsR (xs.take (k+1)) = insU blt xs[k] (valsR (xs.take k)):=(by unfold valsR;rw [List.take_succ_eq_append_getElem hlt,uniqL_snoc]);obtain ⟨y,hy⟩:∃y,xs[k] = y:=⟨_,rfl⟩;rw [hy] at hrdk hnx;obtain ⟨hck,_,_⟩:=hrdk;subst hck;have k0:wo.cell? ⟨b,o+k,none⟩ = some (.string y):=(hbl.cell (p:=⟨b,o+k,none⟩) hbs).trans (by have:=hcells 0 _ rfl;simpa [show Dat.size ByteArray = 1 from rfl] using this);have Jf:=I' hnx;clear hcells hy hnx;generalize valsR (xs.take k) = SS at *;obtain ⟨hg1,hg2,hg3,hgc⟩:=IE hrow;have hzo:w.heap.size≤wo.heap.size:=hbl.size;have hbo:b < wo.heap.size:=O';have HGC:=I' hgc;have HROW:=I' hrow;have HBO:=I' hbl;clear hgc hrow hbl;go_wp2_with fail
   go_loopw [5] (fun j wr=>∃(s1 s2:List ByteArray) (jj:Nat),Hid (SS = s1++s2)∧j = .int .i64 (jj:Int)∧Hid (s1.length = jj)∧Hid (∀z∈s1,blt z y = true)∧Below wo.heap.size wo wr) (fun j _=>N - (intOf j).toNat)
   case atStart=>exact ⟨[],SS,0,I' rfl,rfl,I' rfl,I' (fun z hz=>by cases hz),aj _⟩
   case round =>
    obtain ⟨s1,s2,jj,HE,rfl,HJ,HN,hbr⟩:=hrel;have mc:∀bq oq u,wo.cell? ⟨bq,oq,none⟩ = some u→bq < wo.heap.size→wr.cell? ⟨bq,oq,none⟩ = some u:=fun bq oq u h1 h2=>(hbr.cell (p:=⟨bq,oq,none⟩) h2).trans h1;replace k0:=mc _ _ _ k0 hbo;have MC:=I' mc;have hzr:wo.heap.size≤wr.heap.size:=hbr.size;have hbor:b < wr.heap.size:=O';have hgr:g < wr.heap.size:=O';clear mc;cases s2 with
    | nil =>
      have hjk:jj = N:=(by have e1:=HE.out;have e2:=HSL.out;have e3:=HJ.out;rw [e1,List.append_nil] at e2;omega);have hjk1:N≤jj:=O';have hjd:decide ((jj:Int) < (N:Int)) = false:=(by simp;omega);have hjd2:decide (jj < N) = false:=(by simp;omega);clear hjk;have HI:=I' (show insU blt y (SS) = s1++y :: [] by rw [HE.out];exact insU_nil s1 HN.out);go_wp2_with fail
      refine aF wr U' U' (aj _) ?_
      repeat (first
       | (apply aG
          case hw=>rfl
          simp only [Act.put,pz])
       | (apply aH
          case hw=>rfl
          case h =>exact Zaad
          simp only [Act.put,pz]))
      refine aN ?_;intro wm hn;replace hn:=hn.out;have hbm:Below wo.heap.size wo wm:=ah hbr hn;have hgm:g < wm.heap.size:=(by have:=hn.size;omega);have hbom:b < wm.heap.size:=(by have:=hn.size;omega);replace k0:=(hn.cell (p:=⟨b,o+k,none⟩) awO).trans k0;clear hbr hn;obtain ⟨hbr,hbor,hgr⟩:Below wo.heap.size wo wm∧b < wm.heap.size∧g < wm.heap.size:=⟨hbm,hbom,hgm⟩;clear hbm hbom hgm;go_wp2_with fail
      refine aF wm U' U' (aj _) ?_
      repeat (first
       | (apply aG
          case hw=>rfl
          simp only [Act.put,pz])
       | (apply aH
          case hw=>rfl
          case h =>exact Zaad
          simp only [Act.put,pz]))
      refine aN ?_;intro wn hn;replace hn:=hn.out;have hbn:Below wo.heap.size wo wn:=ah hbr hn;have HBN:=I' (show Below w.heap.size w wn from ah HBO.out hbn);have RJ:=mG HROW.out hbn;obtain ⟨_,hgn,apy,V4⟩:=IE RJ
      have HNC:=I' (show ∀q u,((s1).map Value.string)[q]? = some u→wn.cell? ((⟨g,0,none⟩:Addr).add q) = some u from fun q u hu=>by
       rw [Addr.add_lit,Nat.zero_add];refine V4 q u ?_
       rw [HE.out,List.map_append,List.getElem?_append_left (List.getElem?_eq_some_iff.1 hu).1];exact hu)
      have Gn:=I' (show ∀q u,((([]:List ByteArray)).map Value.string)[q]? = some u→wn.cell? ⟨g,jj+q,none⟩ = some u from fun q u hu=>by
       refine V4 (jj+q) u ?_
       rw [HE.out,List.map_append,List.getElem?_append_right avQ,List.length_map,HJ.out,Nat.add_sub_cancel_left];exact hu)
      have hl2:jj+(([]:List ByteArray)).length = N:=(by have e1:=congrArg List.length HE.out;have e2:=HSL.out;have e3:=HJ.out;rw [List.length_append] at e1;omega);have hjk2:jj≤N:=O';have hjc:jj≤cap:=O';replace k0:=(hn.cell (p:=⟨b,o+k,none⟩) awO).trans k0;have hbn2:b < wn.heap.size:=(by have:=hn.size;omega);have HL2:=I' hl2;have HBW:=I' hbn;clear RJ V4 hl2 hbn;go_wp2_with fail
      refine zU wn 12 U' U' (aj _) ?_;refine YU (fun a0 a' w'=>∃(g9 p9:Nat) (v0_ v1_ v2_ v3_ v4_ v5_ v6_ v7_ v8_ v9_:Value),a' = (Act.put (Act.put (Act.put (Act.put (Act.put (Act.put (Act.put (Act.put (Act.put (Act.put (Act.put (Act.put a0 (some 46) (v0_)) (some 47) (v1_)) (some 48) (v2_)) (some 49) (v3_)) (some 50) (v4_)) (some 51) (v5_)) (some 52) (v6_)) (some 53) (v7_)) (some 54) (v8_)) (some 55) (v9_)) (some 56) (.slice (some ⟨g9,0,none⟩) (jj+1) p9)) (some 6) (.slice (some ⟨g9,0,none⟩) (jj+1) p9))∧Below wn.heap.size wn w'∧World.ownsRow w' wn.heap.size 9 1 (.slice (some ⟨g9,0,none⟩) (jj+1) p9) (jj+1) (((s1).map Value.string)++[.string y])) ?_ ?_;rotate_left
      ·exact Zaei
      intro a' w7 hE7;obtain ⟨g9,p9,v0_,v1_,v2_,v3_,v4_,v5_,v6_,v7_,v8_,v9_,rfl,hb7,nK⟩:=hE7;try simp only [Act.put,pz]
      have hsrc:∃A0:Addr,(if cap = jj then some (⟨g,0,none⟩:Addr) else some ⟨g,jj,none⟩) = some A0∧Hid (A0.block = g∧∀q u,((([]:List ByteArray)).map Value.string)[q]? = some u→w7.cell? (A0.add q) = some u):=by
       by_cases hc:cap = jj
       ·exact Zadz
       ·exact ⟨⟨g,jj,none⟩,by simp [hc],rfl,fun q u hu=>by simp at hu⟩
      obtain ⟨A0,hA0,asg⟩:=hsrc;have hkl:N - jj = (([]:List ByteArray)).length:=(by have:=HL2.out;omega);have HKL:=I' hkl;clear hkl
      go_wp2_with (
       at_builtin
       go_must (refine xW qw J' _ _ J' w7 wn.heap.size _ _ _ nK J' A0 0 (cap - jj) ((([]:List ByteArray)).map Value.string) J' J' asg.out.2 (fun u hu=>by obtain ⟨z0,_,rfl⟩:=List.mem_map.1 hu;rfl) O' O' avR ?_)
       intro v8 w8 Le hg8 hat8;rw [show jj+1+0 = N+1 by omega] at Le;obtain ⟨g8,p8,hv8,hgb8,hgp8,hgl8⟩:=wW Le O'
       subst hv8)
      exact Zafv
    | cons z s2 =>
      have hjk:jj < N:=(by have e1:=congrArg List.length HE.out;have e2:=HSL.out;have e3:=HJ.out;rw [List.length_append,List.length_cons] at e1;omega);have z0:wr.cell? ⟨g,jj,none⟩ = some (.string z):=MC.out _ _ _ (HGC.out jj _ (by rw [HE.out,List.getElem?_map,List.getElem?_append_right (by have:=HJ.out;omega),show jj - s1.length = 0 by have:=HJ.out;omega];rfl)) hg2;have hjd:decide ((jj:Int) < (N:Int)) = true:=(by simp;omega);cases hL:Op.bytesLess z.toList y.toList with
      | true =>have HL:=I' (show blt z y = true from hL);exact Zafd
      | false =>
        have HL:=I' (show blt z y = false from hL);go_wp2_with fail
        refine aF wr U' U' (aj _) ?_
        repeat (first
         | (apply aG
            case hw=>rfl
            simp only [Act.put,pz])
         | (apply aH
            case hw=>rfl
            case h =>exact Zaad
            simp only [Act.put,pz]))
        refine aN ?_;intro wm hn;replace hn:=hn.out;have hbm:Below wo.heap.size wo wm:=ah hbr hn;have hgm:g < wm.heap.size:=(by have:=hn.size;omega);have hbom:b < wm.heap.size:=(by have:=hn.size;omega);replace k0:=(hn.cell (p:=⟨b,o+k,none⟩) awO).trans k0;replace z0:=(hn.cell (p:=⟨g,jj,none⟩) (by first | exact hgr | (dsimp only;omega))).trans z0;clear hbr hn;obtain ⟨hbr,hbor,hgr⟩:Below wo.heap.size wo wm∧b < wm.heap.size∧g < wm.heap.size:=⟨hbm,hbom,hgm⟩;clear hbm hbom hgm;clear hL;cases hE:(z.toList == y.toList) with
        | true =>
          have HI:=I' (show insU blt y (SS) = SS by rw [HE.out];exact insU_same s1 s2 HN.out HL.out (by rw [Ce hE];exact totB.irr y));go_wp2_with fail
          refine aF wm U' U' (aj _) ?_
          repeat (first
           | (apply aG
              case hw=>rfl
              simp only [Act.put,pz])
           | (apply aH
              case hw=>rfl
              case h =>exact Zaad
              simp only [Act.put,pz]))
          refine aN ?_;intro wn hn;replace hn:=hn.out;exact Zaco
        | false =>
          have HG:=I' (show blt y z = true by
           cases hh:blt y z with
           | true=>rfl
           | false=>have:=totB.tri z y HL.out hh;rw [this] at hE;simp at hE)
          have HI:=I' (show insU blt y (SS) = s1++y :: (z :: s2) by rw [HE.out];exact insU_cons s1 s2 HN.out HL.out HG.out);go_wp2_with fail
          refine aF wm U' U' (aj _) ?_
          repeat (first
           | (apply aG
              case hw=>rfl
              simp only [Act.put,pz])
           | (apply aH
              case hw=>rfl
              case h =>exact Zaad
              simp only [Act.put,pz]))
          refine aN ?_;intro wn hn;replace hn:=hn.out;clear hE;have hbn:Below wo.heap.size wo wn:=ah hbr hn;have HBN:=I' (show Below w.heap.size w wn from ah HBO.out hbn);have RJ:=mG HROW.out hbn;obtain ⟨_,hgn,apy,V4⟩:=IE RJ
          have HNC:=I' (show ∀q u,((s1).map Value.string)[q]? = some u→wn.cell? ((⟨g,0,none⟩:Addr).add q) = some u from fun q u hu=>by
           rw [Addr.add_lit,Nat.zero_add];refine V4 q u ?_
           rw [HE.out,List.map_append,List.getElem?_append_left (List.getElem?_eq_some_iff.1 hu).1];exact hu)
          have Gn:=I' (show ∀q u,((z :: s2).map Value.string)[q]? = some u→wn.cell? ⟨g,jj+q,none⟩ = some u from fun q u hu=>by
           refine V4 (jj+q) u ?_
           rw [HE.out,List.map_append,List.getElem?_append_right avQ,List.length_map,HJ.out,Nat.add_sub_cancel_left];exact hu)
          have hl2:jj+(z :: s2).length = N:=(by have e1:=congrArg List.length HE.out;have e2:=HSL.out;have e3:=HJ.out;rw [List.length_append] at e1;omega);have hjk2:jj≤N:=O';have hjc:jj≤cap:=O';have hcj:¬cap = jj:=O';replace k0:=(hn.cell (p:=⟨b,o+k,none⟩) awO).trans k0;have hbn2:b < wn.heap.size:=(by have:=hn.size;omega);have HL2:=I' hl2;have HBW:=I' hbn;clear RJ V4 hl2 hbn;go_wp2_with fail
          refine zU wn 12 U' U' (aj _) ?_;refine YU (fun a0 a' w'=>∃(g9 p9:Nat) (v0_ v1_ v2_ v3_ v4_ v5_ v6_ v7_ v8_ v9_:Value),a' = (Act.put (Act.put (Act.put (Act.put (Act.put (Act.put (Act.put (Act.put (Act.put (Act.put (Act.put (Act.put a0 (some 46) (v0_)) (some 47) (v1_)) (some 48) (v2_)) (some 49) (v3_)) (some 50) (v4_)) (some 51) (v5_)) (some 52) (v6_)) (some 53) (v7_)) (some 54) (v8_)) (some 55) (v9_)) (some 56) (.slice (some ⟨g9,0,none⟩) (jj+1) p9)) (some 6) (.slice (some ⟨g9,0,none⟩) (jj+1) p9))∧Below wn.heap.size wn w'∧World.ownsRow w' wn.heap.size 9 1 (.slice (some ⟨g9,0,none⟩) (jj+1) p9) (jj+1) (((s1).map Value.string)++[.string y])) ?_ ?_;rotate_left
          ·exact Zaei
          intro a' w7 hE7;obtain ⟨g9,p9,v0_,v1_,v2_,v3_,v4_,v5_,v6_,v7_,v8_,v9_,rfl,hb7,nK⟩:=hE7;try simp only [Act.put,pz]
          have hkl:N - jj = (z :: s2).length:=(by have:=HL2.out;omega);have HKL:=I' hkl;clear hkl
          go_wp2_with (
           at_builtin
           go_must (refine xW qw J' _ _ J' w7 wn.heap.size _ _ _ nK J' ⟨g,jj,none⟩ (N - jj) (cap - jj) ((z :: s2).map Value.string) J' awT (fun q u hu=>by rw [Addr.add_lit];exact (hb7.cell (p:=⟨g,jj+q,none⟩) hgn).trans (Gn.out q u hu)) (fun u hu=>by obtain ⟨z0,_,rfl⟩:=List.mem_map.1 hu;rfl) O' O' avR ?_)
           intro v8 w8 Le hg8 hat8;rw [show jj+1+(N - jj) = N+1 by omega] at Le;obtain ⟨g8,p8,hv8,hgb8,hgp8,hgl8⟩:=wW Le O'
           subst hv8)
          exact Zafv
  ·have hkl:k = xs.length:=O';subst hkl;rw [List.take_length] at hrow HSL;rw [← HSL.out] at hrow;obtain ⟨A4,c4,G4,hv4,hO4⟩:=rdStr_own (valsR xs) hrow (fun x hx=>HRD.out x (valsR_mem hx) wr);rw [HSL.out] at hv4;simp only [Value.slice.injEq,true_and] at hv4;obtain ⟨hA4,hc4⟩:=hv4;subst hA4 hc4;have HO4:=I' hO4;clear hrow hO4;go_wp2;go_ret
   exact ⟨some ⟨g,0,none⟩,cap,G4,by rw [HSL.out];try rfl,HO4.out,hbl⟩
end Go.Proofs.YtkbkikggodlbbaaGreat
