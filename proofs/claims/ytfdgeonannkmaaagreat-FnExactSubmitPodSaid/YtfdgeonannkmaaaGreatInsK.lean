/- What slices.Insert of one element does to a row of the call's own: the parts that are alike for all element types. No condition. -/
import Derived.Test.YtfdgeonannkmaaaGreatLaw0
import Derived.Shelf.Spec.SlicesInsert
import Derived.Lib.AppendZerosOnto
import Derived.Shelf.GgSortFunc.RowK
import Derived.Test.YtfdgeonannkmaaaGreatRowK
import Derived.Test.YtfdgeonannkmaaaGreatMark
import Derived.Test.YtfdgeonannkmaaaGreatNeedOk
import Derived.Test.YtfdgeonannkmaaaGreatNeedLess
namespace Go.Proofs.YtfdgeonannkmaaaGreat
open Go.ChangeShapes Go.WideShapes Go.ChangeAt Go.RowKit
set_option linter.unusedVariables false
set_option linter.unusedSimpArgs false
theorem run_copyK {P:Program} (w:World) (dT sT ty elem:TypeId) (b o dLen dCap:Nat) (a:Addr) (sLen sCap S:Nat) (cs:List Value)
 (hu:P.underlying dT = some (.slice elem)) (hs:(P.info? elem).map (·.size) = some S) (hn:cs.length = Nat.min sLen dLen * S)
 (hsrc:∀j v,cs[j]? = some v→w.cell? (a.add j) = some v) (hc:∀j,j < cs.length→(w.cell? ⟨b,o+j,none⟩).isSome = true) (hf:∀j,j < cs.length→w.frozen? ⟨b,o+j,none⟩ = false) (h1:∀v∈cs,v.oneCell' = true) :
 (Builtin.copy_ #[dT,sT] ty #[.slice (some ⟨b,o,none⟩) dLen dCap,.slice (some a) sLen sCap]).run P w = .ok (goInt (Nat.min sLen dLen)) (w.setCells b o cs):=by
 have hl:=run_loadCells_list (P:=P) w a cs hsrc
 have hst:=run_storeCells_cells (P:=P) b o cs 0 w (by simpa using hc) (by simpa using hf) h1
 cases hq:P.info? elem with
 | none=>simp [hq] at hs
 | some i =>
   have hi:i.size = S:=by simpa [hq] using hs
   simp [Builtin.copy_,run_underlying hu,Builtin.lenOf,Builtin.firstCells,sizeOf,typeInfo,hq,hi,← hn,hl,hst]
theorem setCells_heap (b:Nat):∀(vs:List Value) (o:Nat) (w:World) (cur:Array Value) (t:TypeId) (m:Nat × Nat),w.heap[b]? = some (.cells cur t m)→(w.setCells b o vs).heap[b]? = some (.cells (Go.Sort.setMany cur o vs) t m)
 | [],_,_,_,_,_,h=>h
 | v :: r,o,w,cur,t,m,h=>by
   rw [World.setCells,Go.Sort.setMany]
   exact setCells_heap b r (o+1) _ _ t m (by simp [World.setCell,Array.getElem?_modify,h])
theorem insGetK {R:List Value} {N S:Nat} {arr:Array Value} (hl:R.length = N+S) (hs:N+S≤arr.size) (h:∀j,j < N+S→arr[j]! = R[j]!):arr.toList.take (N+S) = R:=by
 apply List.ext_getElem
 ·rw [List.length_take,Array.length_toList,hl];omega
 ·intro j h1 h2
  have hj:j < N+S:=by rw [← hl];exact h2
  have:=h j hj
  rw [getElem!_pos arr j (by omega),getElem!_pos R j h2] at this
  rw [List.getElem_take,Array.getElem_toList]
  exact this
theorem insAtK (ds cs:List Value) (A N S:Nat) (hcl:cs.length = S) (hdl:ds.length = N) (hA:A≤N) (j:Nat) (hj:j < N+S) :
 (ds.take A++(cs++ds.drop A))[j]! = if j < A then ds[j]! else if j < A+S then cs[j - A]! else ds[j - S]!:=by
 have hl:(ds.take A++(cs++ds.drop A)).length = N+S:=by simp only [List.length_append,List.length_take,List.length_drop];omega
 rw [getElem!_pos _ j (by omega)]
 by_cases h1:j < A
 ·rw [if_pos h1,getElem!_pos ds j (by omega),List.getElem_append_left avI,List.getElem_take]
 ·rw [if_neg h1,List.getElem_append_right avI]
  by_cases h2:j < A+S
  ·rw [if_pos h2,getElem!_pos cs _ (by omega),List.getElem_append_left avI]
   congr 1;rw [List.length_take];omega
  ·rw [if_neg h2,getElem!_pos ds _ (by omega),List.getElem_append_right avI,List.getElem_drop]
   congr 1;simp only [List.length_take];omega
theorem ins_take (cur:Array Value) (ds cs:List Value) (A N S:Nat) (hcl:cs.length = S) (hdl:ds.length = N) (hA:A≤N) (hsz:N+S≤cur.size) (hpre:∀t,t < A→cur[t]! = ds[t]!) :
 (Go.Sort.setMany (Go.Sort.setMany cur (A+S) (ds.drop A)) A cs).toList.take (N+S) = ds.take A++(cs++ds.drop A):=by
 refine insGetK (by simp only [List.length_append,List.length_take,List.length_drop];omega) (by simpa using hsz) fun j hj=>?_
 rw [insAtK ds cs A N S hcl hdl hA j hj,Go.Sort.get_setMany _ _ _ _ (by simp;omega),Go.Sort.get_setMany _ _ _ _ (by omega),hcl,List.length_drop]
 by_cases h1:j < A
 ·rw [if_neg (by omega),if_neg (by omega),if_pos h1];exact hpre j h1
 ·rw [if_neg h1]
  by_cases h2:j < A+S
  ·rw [if_pos (by omega),if_pos h2]
  ·rw [if_neg (by omega),if_pos (by omega),if_neg h2,getElem!_pos (ds.drop A) _ awz,getElem!_pos ds _ (by omega),List.getElem_drop]
   congr 1;omega
theorem ins_take2 (cur:Array Value) (ds cs:List Value) (A N S:Nat) (hcl:cs.length = S) (hdl:ds.length = N) (hA:A≤N) (hsz:N+S≤cur.size) (hpre:∀t,t < A→cur[t]! = ds[t]!) :
 (Go.Sort.setMany (Go.Sort.setMany cur A cs) (A+S) (ds.drop A)).toList.take (N+S) = ds.take A++(cs++ds.drop A):=by
 refine insGetK (by simp only [List.length_append,List.length_take,List.length_drop];omega) (by simpa using hsz) fun j hj=>?_
 rw [insAtK ds cs A N S hcl hdl hA j hj,Go.Sort.get_setMany _ _ _ _ (by simp;omega),Go.Sort.get_setMany _ _ _ _ (by omega),hcl,List.length_drop]
 by_cases h1:j < A
 ·rw [if_neg (by omega),if_neg (by omega),if_pos h1];exact hpre j h1
 ·rw [if_neg h1]
  by_cases h2:j < A+S
  ·rw [if_neg (by omega),if_pos (by omega),if_pos h2]
  ·rw [if_pos (by omega),if_neg h2,getElem!_pos (ds.drop A) _ awz,getElem!_pos ds _ (by omega),List.getElem_drop]
   congr 1;omega
end Go.Proofs.YtfdgeonannkmaaaGreat
namespace Go.Proofs.YtfdgeonannkmaaaGreat
open Go.ChangeShapes Go.WideShapes Go.ChangeAt Go.RowKit
set_option linter.unusedVariables false
set_option linter.unusedSimpArgs false
def lrow (x:Label):List Value:=[.string x.key,.string x.value]
def vrow (x:bH):List Value:=[.string x.key,.bool x.equal,.string x.value,.int .i64 x.effect]
section
variable {β:Type} {row:β→List Value} {S:Nat}
theorem rowsAt (hS:∀x,(row x).length = S):∀(D:List β) (k:Nat) (x:β),D[k]? = some x→∀(j:Nat) (u:Value),(row x)[j]? = some u→(D.flatMap row)[k * S+j]? = some u
 | [],_,_,h,_,_,_=>by simp at h
 | r :: rs,0,x,h,j,u,hj=>by
   exact Zadj
 | r :: rs,k+1,x,h,j,u,hj=>by
   rw [List.getElem?_cons_succ] at h
   have hr:=hS r
   have hk:(k+1) * S+j = k * S+j+S:=by rw [Nat.succ_mul];omega
   rw [List.flatMap_cons,List.getElem?_append_right (by omega),hr,show (k+1) * S+j - S = k * S+j by omega]
   exact rowsAt hS rs k x h j u hj
theorem rowsLen (hS:∀x,(row x).length = S):∀D:List β,(D.flatMap row).length = D.length * S
 | []=>by simp
 | r :: rs=>by rw [List.flatMap_cons,List.length_append,hS,rowsLen hS rs,List.length_cons,Nat.succ_mul];omega
theorem rowsOne (h1:∀x,∀u∈row x,u.oneCell' = true) (D:List β):∀u∈D.flatMap row,u.oneCell' = true:=fun u hu=>by
 obtain ⟨x,_,hx⟩:=List.mem_flatMap.1 hu
 exact h1 x u hx
theorem rows_own [Dat β] {w:World} {B e g cap:Nat} (hd:Dat.size β = S) (D:List β) (h:w.ownsRow B e S (.slice (some ⟨g,0,none⟩) D.length cap) D.length (D.flatMap row)) (hr:∀x∈D,rd w x (row x) []):∃A c G,Value.slice (some ⟨g,0,none⟩) D.length cap = .slice A D.length c∧Own w B D [.slice A D.length c] G:=by
 subst hd
 have hrc:∀D:List β,(∀x∈D,rd w x (row x) [])→jo w D (D.flatMap row) []:=fun D=>by
  induction D with
  | nil=>intro _;exact ⟨rfl,rfl⟩
  | cons x D ih=>intro hD;exact ⟨row x,D.flatMap row,[],[],rfl,rfl,hD x (List.mem_cons_self ..),ih fun y hy=>hD y (List.mem_cons_of_mem _ hy)⟩
 exact Own.oJ h ⟨hrc D hr,List.nodup_nil,(fun b hb=>by cases hb),(fun b hb=>by cases hb)⟩ (fun g hg hm=>by cases hm)
end
theorem lrow_one (x:Label):∀u∈lrow x,u.oneCell' = true:=by intro u hu;simp only [lrow,List.mem_cons,List.not_mem_nil,or_false] at hu;rcases hu with rfl | rfl <;> rfl
theorem vrow_one (x:bH):∀u∈vrow x,u.oneCell' = true:=by intro u hu;simp only [vrow,List.mem_cons,List.not_mem_nil,or_false] at hu;rcases hu with rfl | rfl | rfl | rfl <;> rfl
end Go.Proofs.YtfdgeonannkmaaaGreat
namespace Go.Proofs.YtfdgeonannkmaaaGreat
open Go.ChangeShapes Go.WideShapes Go.ChangeAt Go.RowKit
set_option linter.unusedVariables false
set_option linter.unusedSimpArgs false
def insAt {α:Type} (i:Nat) (x:α) (xs:List α):List α:=xs.take i++x :: xs.drop i
theorem insAt_len {α:Type} (i:Nat) (x:α) (xs:List α):(insAt i x xs).length = xs.length+1:=by simp [insAt];omega
theorem aY.ins {α:Type} [Dat α] {w:World} {B:Nat} {xs:List α} {x:α} {ds cs:List Value} {F G:List Nat} (h:aY w B xs ds F) (hx:Own w B x cs G) (hd:∀y∈F,y∉G) (i:Nat) (hi:i≤xs.length) :
 ∃F',aY w B (insAt i x xs) (ds.take (i * Dat.size α)++(cs++ds.drop (i * Dat.size α))) F'∧(∀y∈F',y∈F∨y∈G):=by
 obtain ⟨hr,hn,hb,hp⟩:=h
 rw [← List.take_append_drop i xs] at hr
 obtain ⟨d1,d2,F1,F2,rfl,rfl,h1,h2⟩:=jo.of_append hr
 have hl:d1.length = i * Dat.size α:=by rw [h1.len,List.length_take,Nat.min_eq_left hi]
 rw [← hl,List.take_left,List.drop_left]
 have hn3:=List.nodup_append.1 hn
 have hsub:∀y∈F1++(G++F2),y∈F1++F2∨y∈G:=fun y hy=>by
  simp only [List.mem_append] at hy ⊢
  rcases hy with hy | hy | hy <;> simp [hy]
 refine ⟨F1++(G++F2),⟨h1.append ⟨cs,d2,G,F2,rfl,rfl,hx.rd,h2⟩,?_,fun y hy=>?_,fun y hy=>?_⟩,hsub⟩
 ·rw [List.nodup_append,List.nodup_append]
  refine ⟨hn3.1,⟨hx.nodup,hn3.2.1,fun a ha b hb' e=>hd b (List.mem_append_right _ hb') (e ▸ ha)⟩,fun a ha b hb' e=>?_⟩
  rcases List.mem_append.1 hb' with hb' | hb'
  ·exact hd a (List.mem_append_left _ ha) (e ▸ hb')
  ·exact hn3.2.2 a ha b hb' e
 ·rcases hsub y hy with hy | hy
  ·exact hb y hy
  ·exact hx.base y hy
 ·rcases hsub y hy with hy | hy
  ·exact hp y hy
  ·exact hx.plain y hy
theorem Own.of_rowI {α:Type} [Dat α] {w:World} {B:Nat} {xs:List α} {ds:List Value} {F:List Nat} {e:TypeId} {v:Value} (h0:w.ownsRow B e (Dat.size α) v xs.length ds) (h:aY w B xs ds F) (hne:∀g,v.ownBlock = some g→g∉F):∃A c G,v = .slice A xs.length c∧Own w B xs [.slice A xs.length c] G∧∀y∈G,y∈F∨v.ownBlock = some y:=by
 rcases h0 with ⟨hl,⟨rfl,hn⟩ | ⟨g,cap,cur,rfl,hb,hh,hle,hm,hcs,ht⟩⟩
 ·obtain rfl:xs = []:=List.eq_nil_of_length_eq_zero hn
  exact ⟨none,0,[],rfl,⟨Sl.nil w none 0 (Nat.zero_le _),List.nodup_nil,(fun b hb=>by cases hb),(fun b hb=>by cases hb)⟩,(fun b hb=>by cases hb)⟩
 ·have hg:g < w.heap.size:=by
   exact Zacx
  refine ⟨_,cap,g :: F,rfl,⟨⟨_,cap,F,ds,rfl,hle,hm,h.rd,.inr ⟨g,0,rfl,rfl,hg,fun j u hu=>?_⟩⟩,?_,?_,?_⟩,fun y hy=>?_⟩
  ·rw [Nat.zero_add,cell_of_row w g j cur e (0,0) hh]
   exact Zacd
  ·rw [List.nodup_cons]
   exact ⟨hne g rfl,h.nodup⟩
  ·intro b hb'
   rcases List.mem_cons.1 hb' with rfl | hb'
   ·exact hb
   ·exact h.base b hb'
  ·intro b hb'
   rcases List.mem_cons.1 hb' with rfl | hb'
   ·exact ⟨cur,e,hh⟩
   ·exact h.plain b hb'
  ·rcases List.mem_cons.1 hy with rfl | hy
   ·exact .inr rfl
   ·exact .inl hy
end Go.Proofs.YtfdgeonannkmaaaGreat
namespace Go.Proofs.YtfdgeonannkmaaaGreat
open Go.ChangeShapes Go.WideShapes Go.ChangeAt Go.RowKit
set_option linter.unusedVariables false
set_option linter.unusedSimpArgs false
def aeH (xs:List Need):Bool:=adb uh nD 4 xs
set_option maxRecDepth 100000 in
set_option maxHeartbeats 2000000 in
theorem WI (xs:List Need) (A:Option Addr) (n c:Nat) (F:List Nat) (w:World) (h:Sl w xs A c F) (hn:n = xs.length) (hl:(xs.length:Int)≤1048576) (hsm:(∀l∈xs,(l.key.size:Int)≤1048576∧(l.values.length:Int)≤1048576∧∀v∈l.values,(v.size:Int)≤1048576)) :
 Calls Tryz.prog 151 #[.slice A n c] w fun e w'=>e = .returned (.bool (aeH xs))∧Below w.heap.size w w':=by
 subst hn
 have Eo:=Lib.hid hsm
 clear hsm
 go_enter Tryz.func151,Tryz.ntmps151
 go_wp2_with fail
 go_loopw [7] (fun i wr=>∃k:Nat,k≤xs.length∧i = .int .i64 k∧Hid (∀j,j < k→rowAt uh nD xs j = true)∧Below w.heap.size w wr) (fun i _=>xs.length - (intOf i).toNat)
 case atStart=>exact ⟨0,Nat.zero_le _,rfl,(fun j hj=>by omega),atS⟩
 case round =>
  obtain ⟨k,hk,rfl,hall,hbl⟩:=hrel
  by_cases hlt:k < xs.length
  ·obtain rfl | ⟨j,rfl⟩:k = 0∨∃j,k = j+1:=by cases k with | zero=>exact .inl rfl | succ j=>exact .inr ⟨j,rfl⟩
   ·obtain ⟨b,o,ck,Fk,rfl,o9,hbs,hr,hsub,hc⟩:=(Sl.ext (w':=wr) (A:=A) (c:=c) h hbl).get hlt
    have hr0:=hr
    obtain ⟨jy,ji,Bo,hck,su,hkey,hop,kV⟩:=og hr
    subst hck
    have q0:wr.cell? ⟨b,o+0 * 3,none⟩ = some (.string xs[0].key):=by exact hc 0 _ rfl
    have q1:wr.cell? ⟨b,o+0 * 3+1,none⟩ = some (.int .i64 xs[0].op):=by rw [Nat.add_assoc];exact hc 1 _ rfl
    have q2:wr.cell? ⟨b,o+0 * 3+2,none⟩ = some (.slice jy xs[0].values.length ji):=by rw [Nat.add_assoc];exact hc 2 _ rfl
    clear hc
    simp only [Nat.zero_mul,Nat.add_zero] at q0 q1 q2
    obtain ⟨hs1,hs2,hs3⟩:=Eo.out xs[0] (List.getElem_mem ..)
    cases h1:uh xs[0]
    all_goals
     have hp:=rowAt_zero (ok:=uh) (less:=nD) hlt
     rw [h1] at hp
     try simp only [Bool.false_and,Bool.and_false,Bool.and_true,Bool.and_self] at hp
     change rowAt uh nD xs _ = _ at hp
     have hK:∀wq,Below wr.heap.size wr wq→Calls Tryz.prog 194 #[.agg #[.string xs[0].key,.int .i64 xs[0].op,.slice jy xs[0].values.length ji]] wq fun e w'=>e = .returned (.bool (uh xs[0]))∧Below wq.heap.size wq w' :=
      fun wq hq=>Rw xs[0] _ _ _ (aJ hr0 hq) hs1 hs2 hs3
     rw [h1] at hK
     have NOK:=Lib.hid hK
     clear hK
     first
      | have HN:=Lib.hid (gq hall.out hp)
      | have HF:=Lib.hid (wU (most:=4) hlt hp)
     clear h1 hp
     go_wp2_with fail
     refine aF _ (by kernel_rfl) (by kernel_rfl) (aj _) ?_
     repeat (first
      | (apply aG
         case hw=>rfl
         simp only [Act.put,pz])
      | (apply aH
         case hw=>rfl
         case h =>
          exact Zabg
         simp only [Act.put,pz]))
     refine aN ?_
     intro wn hn
     replace hn:=hn.out
     go_wp2
     first
      | exact ⟨⟨0+1,by omega,by go_num,HN.out,ah (ak hbl _) hn⟩,by simp [intOf];omega⟩
      | (go_ret;exact ⟨by unfold aeH;rw [HF.out];rfl,ah (ak hbl _) hn⟩)
   ·obtain ⟨b,o,ck,Fk,rfl,o9,hbs,hr,hsub,hc⟩:=(Sl.ext (w':=wr) (A:=A) (c:=c) h hbl).get hlt
    have hr0:=hr
    obtain ⟨jy,ji,Bo,hck,su,hkey,hop,kV⟩:=og hr
    subst hck
    have q0:wr.cell? ⟨b,o+(j+1) * 3,none⟩ = some (.string xs[j+1].key):=by exact hc 0 _ rfl
    have q1:wr.cell? ⟨b,o+(j+1) * 3+1,none⟩ = some (.int .i64 xs[j+1].op):=by rw [Nat.add_assoc];exact hc 1 _ rfl
    have q2:wr.cell? ⟨b,o+(j+1) * 3+2,none⟩ = some (.slice jy xs[j+1].values.length ji):=by rw [Nat.add_assoc];exact hc 2 _ rfl
    clear hc
    obtain ⟨b',o',TY,Xw,e,Ht,hbs',hr',zQ,hc'⟩:=Sl.get (Sl.ext (w':=wr) (c:=c) h hbl) (show j < xs.length by omega)
    have QS:=hr'
    obtain ⟨qO,qP,KL,jU,abT,vC,hop2,zS⟩:=og hr'
    subst jU
    obtain ⟨rfl,rfl⟩:b' = b∧o' = o:=by simpa using e.symm
    clear e
    have p0:wr.cell? ⟨b',o'+j * 3,none⟩ = some (.string xs[j].key):=by exact hc' 0 _ rfl
    have p1:wr.cell? ⟨b',o'+j * 3+1,none⟩ = some (.int .i64 xs[j].op):=by rw [Nat.add_assoc];exact hc' 1 _ rfl
    have p2:wr.cell? ⟨b',o'+j * 3+2,none⟩ = some (.slice qO xs[j].values.length qP):=by rw [Nat.add_assoc];exact hc' 2 _ rfl
    clear hc'
    have hwj:IntKind.i64.wrap (j:Int) = j:=IntWalk.i64_in _ (by omega)
    have hjl:j < xs.length:=by omega
    obtain ⟨hp1,hp2,hp3⟩:=Eo.out xs[j] (List.getElem_mem ..)
    obtain ⟨hs1,hs2,hs3⟩:=Eo.out xs[j+1] (List.getElem_mem ..)
    cases h1:uh xs[j+1] <;> cases h3:nD xs[j] xs[j+1]
    all_goals
     have hp:=yS (ok:=uh) (less:=nD) hlt
     rw [h1,h3] at hp
     try simp only [Bool.false_and,Bool.and_false,Bool.and_true,Bool.and_self] at hp
     change rowAt uh nD xs _ = _ at hp
     have hK:∀wq,Below wr.heap.size wr wq→Calls Tryz.prog 194 #[.agg #[.string xs[j+1].key,.int .i64 xs[j+1].op,.slice jy xs[j+1].values.length ji]] wq fun e w'=>e = .returned (.bool (uh xs[j+1]))∧Below wq.heap.size wq w' :=
      fun wq hq=>Rw xs[j+1] _ _ _ (aJ hr0 hq) hs1 hs2 hs3
     rw [h1] at hK
     have NOK:=Lib.hid hK
     clear hK
     first
      | have HN:=Lib.hid (gq hall.out hp)
      | have HF:=Lib.hid (wU (most:=4) hlt hp)
     have hC:∀wq,Below wr.heap.size wr wq→Calls Tryz.prog 195 #[.agg #[.string xs[j].key,.int .i64 xs[j].op,.slice qO xs[j].values.length qP],.agg #[.string xs[j+1].key,.int .i64 xs[j+1].op,.slice jy xs[j+1].values.length ji]] wq fun e w'=>e = .returned (.bool (nD xs[j] xs[j+1]))∧Below wq.heap.size wq w' :=
      fun wq hq=>ail xs[j] xs[j+1] _ _ _ _ _ (aJ QS hq) (aJ hr0 hq) hp2 hs2
     rw [h3] at hC
     have CMP:=Lib.hid hC
     clear hC
     clear h1 hp
     go_wp2_with fail
     refine aF _ (by kernel_rfl) (by kernel_rfl) (aj _) ?_
     repeat (first
      | (apply aG
         case hw=>rfl
         simp only [Act.put,pz])
      | (apply aH
         case hw=>rfl
         case h =>
          exact Zabg
         simp only [Act.put,pz]))
     refine aN ?_
     intro wn hn
     replace hn:=hn.out
     go_wp2
     first
      | exact ⟨⟨j+1+1,by omega,by go_num,HN.out,ah (ak hbl _) hn⟩,by simp [intOf];omega⟩
      | (go_ret;exact ⟨by unfold aeH;rw [HF.out];rfl,ah (ak hbl _) hn⟩)
  ·have hkl:k = xs.length:=by omega
   subst hkl
   by_cases hm:(xs.length:Int)≤4
   ·have HF:=Lib.hid (Jy hm hall.out)
    go_wp2
    go_ret
    exact ⟨by unfold aeH;rw [HF.out];first | rfl | simp [hm],hbl⟩
   ·have HF:=Lib.hid (Jz (ok:=uh) (less:=nD) hm)
    go_wp2
    go_ret
    exact ⟨by unfold aeH;rw [HF.out];first | rfl | simp [hm],hbl⟩
set_option maxRecDepth 100000 in
set_option maxHeartbeats 2000000 in
theorem WJ (xs:List Need) (A:Option Addr) (n c:Nat) (F:List Nat) (w:World) (h:Sl w xs A c F) (hn:n = xs.length) (hl:(xs.length:Int)≤1048576) (hsm:(∀l∈xs,(l.key.size:Int)≤1048576∧(l.values.length:Int)≤1048576∧∀v∈l.values,(v.size:Int)≤1048576)) :
 Calls Tryz.prog 132 #[.slice A n c] w fun e w'=>e = .returned (.bool (aeH xs))∧Below w.heap.size w w':=by
 subst hn
 have Eo:=Lib.hid hsm
 clear hsm
 by_cases hm:(xs.length:Int)≤4
 ·go_enter Tryz.func132,Tryz.ntmps132
  go_wp2_with fail
  go_loopw [3] (fun i wr=>∃k:Nat,k≤xs.length∧i = .int .i64 k∧Hid (∀j,j < k→rowAt uh nD xs j = true)∧Below w.heap.size w wr) (fun i _=>xs.length - (intOf i).toNat)
  case atStart=>exact ⟨0,Nat.zero_le _,rfl,(fun j hj=>by omega),atS⟩
  case round =>
   obtain ⟨k,hk,rfl,hall,hbl⟩:=hrel
   by_cases hlt:k < xs.length
   ·obtain rfl | ⟨j,rfl⟩:k = 0∨∃j,k = j+1:=by cases k with | zero=>exact .inl rfl | succ j=>exact .inr ⟨j,rfl⟩
    ·obtain ⟨b,o,ck,Fk,rfl,o9,hbs,hr,hsub,hc⟩:=(Sl.ext (w':=wr) (A:=A) (c:=c) h hbl).get hlt
     have hr0:=hr
     obtain ⟨jy,ji,Bo,hck,su,hkey,hop,kV⟩:=og hr
     subst hck
     have q0:wr.cell? ⟨b,o+0 * 3,none⟩ = some (.string xs[0].key):=by exact hc 0 _ rfl
     have q1:wr.cell? ⟨b,o+0 * 3+1,none⟩ = some (.int .i64 xs[0].op):=by rw [Nat.add_assoc];exact hc 1 _ rfl
     have q2:wr.cell? ⟨b,o+0 * 3+2,none⟩ = some (.slice jy xs[0].values.length ji):=by rw [Nat.add_assoc];exact hc 2 _ rfl
     clear hc
     simp only [Nat.zero_mul,Nat.add_zero] at q0 q1 q2
     obtain ⟨hs1,hs2,hs3⟩:=Eo.out xs[0] (List.getElem_mem ..)
     cases h1:uh xs[0]
     all_goals
      have hp:=rowAt_zero (ok:=uh) (less:=nD) hlt
      rw [h1] at hp
      try simp only [Bool.false_and,Bool.and_false,Bool.and_true,Bool.and_self] at hp
      change rowAt uh nD xs _ = _ at hp
      have hK:∀wq,Below wr.heap.size wr wq→Calls Tryz.prog 178 #[.agg #[.string xs[0].key,.int .i64 xs[0].op,.slice jy xs[0].values.length ji]] wq fun e w'=>e = .returned (.bool (uh xs[0]))∧Below wq.heap.size wq w' :=
       fun wq hq=>Rx xs[0] _ _ _ (aJ hr0 hq) hs1 hs2 hs3
      rw [h1] at hK
      have NOK:=Lib.hid hK
      clear hK
      first
       | have HN:=Lib.hid (gq hall.out hp)
       | have HF:=Lib.hid (wU (most:=4) hlt hp)
      clear h1 hp
      go_wp2_with fail
      refine aF _ (by kernel_rfl) (by kernel_rfl) (aj _) ?_
      repeat (first
       | (apply aG
          case hw=>rfl
          simp only [Act.put,pz])
       | (apply aH
          case hw=>rfl
          case h =>
           exact Zabg
          simp only [Act.put,pz]))
      refine aN ?_
      intro wn hn
      replace hn:=hn.out
      go_wp2
      first
       | exact ⟨⟨0+1,by omega,by go_num,HN.out,ah hbl hn⟩,by simp [intOf];omega⟩
       | (go_ret;exact ⟨by unfold aeH;rw [HF.out];rfl,ah hbl hn⟩)
    ·obtain ⟨b,o,ck,Fk,rfl,o9,hbs,hr,hsub,hc⟩:=(Sl.ext (w':=wr) (A:=A) (c:=c) h hbl).get hlt
     have hr0:=hr
     obtain ⟨jy,ji,Bo,hck,su,hkey,hop,kV⟩:=og hr
     subst hck
     have q0:wr.cell? ⟨b,o+(j+1) * 3,none⟩ = some (.string xs[j+1].key):=by exact hc 0 _ rfl
     have q1:wr.cell? ⟨b,o+(j+1) * 3+1,none⟩ = some (.int .i64 xs[j+1].op):=by rw [Nat.add_assoc];exact hc 1 _ rfl
     have q2:wr.cell? ⟨b,o+(j+1) * 3+2,none⟩ = some (.slice jy xs[j+1].values.length ji):=by rw [Nat.add_assoc];exact hc 2 _ rfl
     clear hc
     obtain ⟨b',o',TY,Xw,e,Ht,hbs',hr',zQ,hc'⟩:=Sl.get (Sl.ext (w':=wr) (c:=c) h hbl) (show j < xs.length by omega)
     have QS:=hr'
     obtain ⟨qO,qP,KL,jU,abT,vC,hop2,zS⟩:=og hr'
     subst jU
     obtain ⟨rfl,rfl⟩:b' = b∧o' = o:=by simpa using e.symm
     clear e
     have p0:wr.cell? ⟨b',o'+j * 3,none⟩ = some (.string xs[j].key):=by exact hc' 0 _ rfl
     have p1:wr.cell? ⟨b',o'+j * 3+1,none⟩ = some (.int .i64 xs[j].op):=by rw [Nat.add_assoc];exact hc' 1 _ rfl
     have p2:wr.cell? ⟨b',o'+j * 3+2,none⟩ = some (.slice qO xs[j].values.length qP):=by rw [Nat.add_assoc];exact hc' 2 _ rfl
     clear hc'
     have hwj:IntKind.i64.wrap (j:Int) = j:=IntWalk.i64_in _ (by omega)
     have hjl:j < xs.length:=by omega
     obtain ⟨hp1,hp2,hp3⟩:=Eo.out xs[j] (List.getElem_mem ..)
     obtain ⟨hs1,hs2,hs3⟩:=Eo.out xs[j+1] (List.getElem_mem ..)
     cases h1:uh xs[j+1] <;> cases h3:nD xs[j] xs[j+1]
     all_goals
      have hp:=yS (ok:=uh) (less:=nD) hlt
      rw [h1,h3] at hp
      try simp only [Bool.false_and,Bool.and_false,Bool.and_true,Bool.and_self] at hp
      change rowAt uh nD xs _ = _ at hp
      have hK:∀wq,Below wr.heap.size wr wq→Calls Tryz.prog 178 #[.agg #[.string xs[j+1].key,.int .i64 xs[j+1].op,.slice jy xs[j+1].values.length ji]] wq fun e w'=>e = .returned (.bool (uh xs[j+1]))∧Below wq.heap.size wq w' :=
       fun wq hq=>Rx xs[j+1] _ _ _ (aJ hr0 hq) hs1 hs2 hs3
      rw [h1] at hK
      have NOK:=Lib.hid hK
      clear hK
      first
       | have HN:=Lib.hid (gq hall.out hp)
       | have HF:=Lib.hid (wU (most:=4) hlt hp)
      have hC:∀wq,Below wr.heap.size wr wq→Calls Tryz.prog 131 #[.agg #[.string xs[j].key,.int .i64 xs[j].op,.slice qO xs[j].values.length qP],.agg #[.string xs[j+1].key,.int .i64 xs[j+1].op,.slice jy xs[j+1].values.length ji]] wq fun e w'=>e = .returned (.bool (nD xs[j] xs[j+1]))∧Below wq.heap.size wq w' :=
       fun wq hq=>TN xs[j] xs[j+1] _ _ _ _ _ (aJ QS hq) (aJ hr0 hq) hp2 hs2
      rw [h3] at hC
      have CMP:=Lib.hid hC
      clear hC
      clear h1 hp
      go_wp2_with fail
      refine aF _ (by kernel_rfl) (by kernel_rfl) (aj _) ?_
      repeat (first
       | (apply aG
          case hw=>rfl
          simp only [Act.put,pz])
       | (apply aH
          case hw=>rfl
          case h =>
           exact Zabg
          simp only [Act.put,pz]))
      refine aN ?_
      intro wn hn
      replace hn:=hn.out
      go_wp2
      first
       | exact ⟨⟨j+1+1,by omega,by go_num,HN.out,ah hbl hn⟩,by simp [intOf];omega⟩
       | (go_ret;exact ⟨by unfold aeH;rw [HF.out];rfl,ah hbl hn⟩)
   ·have hkl:k = xs.length:=by omega
    subst hkl
    have HF:=Lib.hid (Jy hm hall.out)
    go_wp2
    go_ret
    exact ⟨by unfold aeH;rw [HF.out];rfl,hbl⟩
 ·have HF:=Lib.hid (Jz (ok:=uh) (less:=nD) hm)
  go_enter Tryz.func132,Tryz.ntmps132
  go_wp2
  go_ret
  exact ⟨by unfold aeH;rw [HF.out];rfl,atS⟩
end Go.Proofs.YtfdgeonannkmaaaGreat
