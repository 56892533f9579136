/- slices.Insert of one element at []Placed, a row of the call's own. No condition. -/
import Derived.Test.YtkbkikggodlbbaaGreatMiStr
import Derived.Deep.RegionLaw
namespace Go.Proofs.YtkbkikggodlbbaaGreat
open Go.ChangeShapes Go.WideShapes Go.ChangeAt Go.RowKit
set_option linter.unusedVariables false
set_option linter.unusedSimpArgs false
set_option maxHeartbeats 4000000
set_option maxRecDepth 100000
theorem infoIPlaced:(Tryz.prog.info? 97).map (fun i=>(i.zero,i.size,i.bytes)) = some (some (.agg #[.string ⟨#[]⟩,.slice none 0 0,.int .i64 0,.int .i64 0,.int .i64 0,.slice none 0 0,.slice none 0 0,.string ⟨#[]⟩,.int .i64 0]),9,136):=by kernel_rfl
theorem elIPlaced:DL Tryz.prog 41 97 (.agg #[.string ⟨#[]⟩,.slice none 0 0,.int .i64 0,.int .i64 0,.int .i64 0,.slice none 0 0,.slice none 0 0,.string ⟨#[]⟩,.int .i64 0]) 9 136:=⟨Tryz.underlying41,infoIPlaced,rfl,O'⟩
theorem insPlaced_nil (w:World) (B vb:Nat) (cs:List Value) (hB:B≤w.heap.size) (tv:TypeId) (hcl:cs.length = 9) (h1:∀u∈cs,u.oneCell' = true) (hv:w.heap[vb]? = some (.cells cs.toArray tv (0,0))) :
 Calls Tryz.prog 74 #[.slice none 0 0,.int .i64 0,.slice (some ⟨vb,0,none⟩) 1 1] w fun e w'=>∃v',e = .returned v'∧w'.ownsRow B 97 9 v' 1 cs∧w.grownBy w' none∧(v'.ownBlock = none∨v'.ownBlock = some w.heap.size):=by
 have hnew:∀q u,cs[q]? = some u→w.cell? ((⟨vb,0,none⟩:Addr).add q) = some u:=fun q u hu=>by
  exact Zach
 have HV:=I' hv;clear hv;go_enter Tryz.func74,Tryz.ntmps74
 go_wp2_with (
  at_builtin
  go_must (refine xW elIPlaced J' _ _ J' w B _ 0 [] (World.ownsRow_nil w _ _ _) J' ⟨vb,0,none⟩ 1 1 cs J' (by rw [hcl]) hnew h1 O' O' hB ?_)
  intro v2 w2 hown hg hat)
 rw [Nat.zero_add,List.nil_append] at hown;go_ret
 exact ⟨v2,rfl,hown,hg,hat⟩
theorem insPlaced_end (w:World) (B g n c vb:Nat) (ds cs:List Value) (hB:B≤w.heap.size) (hown:w.ownsRow B 97 9 (.slice (some ⟨g,0,none⟩) n c) n ds) (hn:n≤1048576) (hc:c≤9223372036854775807) (tv:TypeId) (hcl:cs.length = 9) (h1:∀u∈cs,u.oneCell' = true) (hv:w.heap[vb]? = some (.cells cs.toArray tv (0,0))) :
 Calls Tryz.prog 74 #[.slice (some ⟨g,0,none⟩) n c,.int .i64 n,.slice (some ⟨vb,0,none⟩) 1 1] w fun e w'=>∃v',e = .returned v'∧w'.ownsRow B 97 9 v' (n+1) (ds++cs)∧w.grownBy w' (some g)∧(v'.ownBlock = some g∨v'.ownBlock = some w.heap.size):=by
 have hnew:∀q u,cs[q]? = some u→w.cell? ((⟨vb,0,none⟩:Addr).add q) = some u:=fun q u hu=>by
  exact Zach
 obtain ⟨_,hgl,hnc,_⟩:=IE hown;have HV:=I' hv;have HOWN:=I' hown;clear hv hown;go_enter Tryz.func74,Tryz.ntmps74
 go_wp2_with (
  at_builtin
  go_must (refine xW elIPlaced J' _ _ J' w B _ n ds HOWN.out J' ⟨vb,0,none⟩ 1 1 cs J' (by rw [hcl]) hnew h1 O' O' hB ?_)
  intro v2 w2 hown hg hat)
 all_goals
  go_ret
  exact ⟨v2,rfl,hown,hg,hat⟩
theorem insPlaced_shift (w:World) (B g n c i vb:Nat) (ds cs:List Value) (hB:B≤w.heap.size) (hown:w.ownsRow B 97 9 (.slice (some ⟨g,0,none⟩) n c) n ds) (hn:n≤1048576) (hc:c≤9223372036854775807) (hi:i < n) (hroom:n+1≤c) (hvb:vb≠g) (hd1:∀u∈ds,u.oneCell' = true) (tv:TypeId) (hcl:cs.length = 9) (h1:∀u∈cs,u.oneCell' = true) (hv:w.heap[vb]? = some (.cells cs.toArray tv (0,0))) :
 Calls Tryz.prog 74 #[.slice (some ⟨g,0,none⟩) n c,.int .i64 i,.slice (some ⟨vb,0,none⟩) 1 1] w fun e w'=>e = .returned (.slice (some ⟨g,0,none⟩) (n+1) c)∧w'.ownsRow B 97 9 (.slice (some ⟨g,0,none⟩) (n+1) c) (n+1) (ds.take (i * 9)++(cs++ds.drop (i * 9)))∧w.grownBy w' (some g):=by
 have hnew:∀q u,cs[q]? = some u→w.cell? ((⟨vb,0,none⟩:Addr).add q) = some u:=fun q u hu=>by
  exact Zach
 obtain ⟨hgB,hgl,_,hcell⟩:=IE hown;have hdl:ds.length = n * 9:=hown.1;obtain ⟨cur,hcur,hcs,hct⟩:∃cur:Array Value,w.heap[g]? = some (.cells cur 97 (0,0))∧cur.size = c * 9∧cur.toList.take (n * 9) = ds:=by exact Zadg
 have hcl2:∀j,j < c * 9→(w.cell? ⟨g,j,none⟩).isSome = true:=fun j hj=>by rw [cell_of_row w g j cur _ (0,0) hcur,Array.getElem?_eq_getElem (by rw [hcs];exact hj)];rfl
 have hfz:∀j,w.frozen? ⟨g,j,none⟩ = false:=fun j=>by simp [World.frozen?,hcur]
 have hsz:(Tryz.prog.info? 97).map (·.size) = some 9:=by obtain ⟨i0,hi0,h0,h1,h2⟩:=info_parts infoIPlaced;rw [hi0];simp [h1]
 have hov:∀lb cb,(callFunc 127 #[.slice (some ⟨vb,0,none⟩) 1 1,.slice (some ⟨g,(i+1) * 9,none⟩) lb cb]).run Tryz.prog w = .ok (.value (.bool false)) w:=fun lb cb=>by
  rw [run_callFunc_extern Tryz.func127 U' U' U' (e:=Extern.SlicesOverlaps.overlaps #[41,41] #[4]) U',
    Lib.run_overlaps_apart w 41 4 97 Tryz.underlying41 9 Tryz.sizeOf97 ⟨vb,0,none⟩ ⟨g,(i+1) * 9,none⟩ 1 1 lb cb hvb tv 97 cs.length cur.size (by simp [World.shape?,hv]) (by simp [World.shape?,hcur]) (by rw [hcs];omega) (by simp [World.frozen?,hv]) (by simp [World.frozen?,hv])]
  rfl
 have hdd:(ds.drop (i * 9)).length = (n - i) * 9:=by rw [List.length_drop,hdl];omega
 have hcp1:∀ty dc sc,(Builtin.copy_ #[41,41] ty #[.slice (some ⟨g,(i+1) * 9,none⟩) (n - i) dc,.slice (some ⟨g,i * 9,none⟩) (n+1 - i) sc]).run Tryz.prog w.drew = .ok (goInt ((n - i:Nat):Int)) (w.drew.setCells g ((i+1) * 9) (ds.drop (i * 9))):=fun ty dc sc=>by
  have:=run_copyK (P:=Tryz.prog) w.drew 41 41 ty 97 g ((i+1) * 9) (n - i) dc ⟨g,i * 9,none⟩ (n+1 - i) sc 9 (ds.drop (i * 9)) Tryz.underlying41 hsz (by rw [hdd];simp only [Nat.min_def];split <;> omega)
   (fun j v hj=>by rw [Addr.add_lit];exact hcell (i * 9+j) v (by rwa [List.getElem?_drop] at hj)) (fun j hj=>hcl2 _ O') (fun j _=>hfz _) (fun v hv'=>hd1 v (List.mem_of_mem_drop hv'))
  rw [show Nat.min (n+1 - i) (n - i) = n - i by simp only [Nat.min_def];split <;> omega] at this;exact this
 have hcp2:∀(W:World),(∀x,W.cell? x = (w.drew.setCells g ((i+1) * 9) (ds.drop (i * 9))).cell? x)→(∀x,W.frozen? x = (w.drew.setCells g ((i+1) * 9) (ds.drop (i * 9))).frozen? x)→∀ty dc,(Builtin.copy_ #[41,41] ty #[.slice (some ⟨g,i * 9,none⟩) (n+1 - i) dc,.slice (some ⟨vb,0,none⟩) 1 1]).run Tryz.prog W = .ok (goInt 1) (W.setCells g (i * 9) cs):=fun W hWc hWf ty dc=>by
  have:=run_copyK (P:=Tryz.prog) W 41 41 ty 97 g (i * 9) (n+1 - i) dc ⟨vb,0,none⟩ 1 1 9 cs Tryz.underlying41 hsz (by rw [hcl];simp only [Nat.min_def];split <;> omega)
   (fun j v hj=>by rw [hWc,Addr.add_lit,World.cell?_setCells_out g _ _ _ _ (fun h _=>absurd h hvb)];have:=hnew j v hj;rwa [Addr.add_lit] at this)
   (fun j hj=>by rw [hWc];exact isSome_setCells g _ _ w.drew (fun t ht=>hcl2 ((i+1) * 9+t) (by rw [hdd] at ht;omega)) _ (hcl2 (i * 9+j) (by rw [hcl] at hj;omega))) (fun j _=>by rw [hWf,World.frozen?_setCells];exact hfz _) h1
  rw [show Nat.min 1 (n+1 - i) = 1 by simp only [Nat.min_def];split <;> omega] at this;exact this
 have hfin:∀W:World,W = (w.drew.setCells g ((i+1) * 9) (ds.drop (i * 9))).setCells g (i * 9) cs→W.ownsRow B 97 9 (.slice (some ⟨g,0,none⟩) (n+1) c) (n+1) (ds.take (i * 9)++(cs++ds.drop (i * 9)))∧w.grownBy W (some g):=fun W hW=>by
  subst hW;have e1:=F8 g (ds.drop (i * 9)) ((i+1) * 9) w.drew;have e2:=F8 g cs (i * 9) (w.drew.setCells g ((i+1) * 9) (ds.drop (i * 9)));have hh:=setCells_heap g cs (i * 9) _ _ _ _ (setCells_heap g (ds.drop (i * 9)) ((i+1) * 9) w.drew cur 97 (0,0) hcur);refine ⟨⟨by simp only [List.length_append,List.length_take,List.length_drop];omega,.inr ⟨g,c,_,rfl,hgB,hh,hroom,by unfold maxLen;omega,by simp [hcs],?_⟩⟩,⟨e2.1.trans e1.1,e2.2.1.trans e1.2.1,e2.2.2.trans e1.2.2,by rw [setCells_size,setCells_size];exact Nat.le_refl _,fun k hk hne=>?_⟩⟩
  ·have:=ins_take cur ds cs (i * 9) (n * 9) 9 hcl hdl O' (by rw [hcs];omega) (fun t ht=>by
    have h2:t < n * 9:=O';rw [getElem!_pos cur t (by rw [hcs];omega),getElem!_pos ds t O'];have h3:(cur.toList.take (n * 9))[t]? = ds[t]?:=(by rw [hct]);rw [List.getElem?_take,if_pos h2,List.getElem?_eq_getElem (by rw [Array.length_toList,hcs];omega),List.getElem?_eq_getElem O'] at h3
    simpa using h3)
   rw [show (i+1) * 9 = i * 9+9 by omega,show (n+1) * 9 = n * 9+9 by omega];exact this
  ·have hkg:k≠g:=fun e=>hne (by rw [e]);rw [vV g hkg,vV g hkg];rfl
 have HF:=I' hfin;obtain ⟨W1,hW1⟩:∃W1,W1 = w.drew.setCells g ((i+1) * 9) (ds.drop (i * 9)):=⟨_,rfl⟩;rw [← hW1] at hcp1 hcp2;have HW1:=I' hW1;have HCP1:=I' hcp1;have HCP2:=I' hcp2;have HOV:=I' hov;have HHV:=I' hv;have hw1:IntKind.i64.wrap ((i:Int)+1) = (i:Int)+1:=by rw [IntKind.wrap_i64];omega
 have hb1:(0:Int)≤(i:Int)+1:=by omega
 have htn:((i:Int)+1).toNat = i+1:=by omega
 have hz2:¬((i:Int) = (n:Int)):=by omega
 have hb2:¬(c = i+1):=by omega
 have hb3:(i:Int)≤(n:Int)+1:=by omega
 have hb4:¬(c = i):=by omega
 have hin:i≤n:=by omega
 clear hfin hcur hcs hct hcl2 hfz hsz hdd hW1 hcp1 hcp2 hov hnew hown hcell hdl hv hd1 h1 hcl;go_enter Tryz.func74,Tryz.ntmps74;go_wp2_with (simp only [HOV.out])
 go_region_law (refine step_copy_runI rfl _ _ 41 41 rfl (.slice (some ⟨g,(i+1) * 9,none⟩) (n - i) (c - (i+1))) (.slice (some ⟨g,i * 9,none⟩) (n+1 - i) (c - i)) av7 av7 (HCP1.out _ _ _) ?_)
 go_wp2_with (refine wpList_copy_runI _ rfl _ _ 41 41 rfl _ _ rfl rfl (HCP2.out _ (fun _=>rfl) (fun _=>rfl) _ _) ?_)
 go_ret
 exact ⟨rfl,HF.out _ (by rw [HW1.out])⟩
theorem insPlaced_grow (w:World) (B g n c i vb:Nat) (ds cs:List Value) (hB:B≤w.heap.size) (hown:w.ownsRow B 97 9 (.slice (some ⟨g,0,none⟩) n c) n ds) (hn:n≤1048576) (hi:i < n) (hroom:c < n+1) (hvb:vb < w.heap.size) (hd1:∀u∈ds,u.oneCell' = true) (tv:TypeId) (hcl:cs.length = 9) (h1:∀u∈cs,u.oneCell' = true) (hv:w.heap[vb]? = some (.cells cs.toArray tv (0,0))) :
 Calls Tryz.prog 74 #[.slice (some ⟨g,0,none⟩) n c,.int .i64 i,.slice (some ⟨vb,0,none⟩) 1 1] w fun e w'=>∃v',e = .returned v'∧w'.ownsRow B 97 9 v' (n+1) (ds.take (i * 9)++(cs++ds.drop (i * 9)))∧w.grownBy w' (some g)∧v'.ownBlock = some w.heap.size:=by
 have hnew:∀q u,cs[q]? = some u→w.cell? ((⟨vb,0,none⟩:Addr).add q) = some u:=fun q u hu=>by
  exact Zach
 obtain ⟨hgB,hgl,hnc,hcell⟩:=IE hown;have hdl:ds.length = n * 9:=hown.1;have hcn:c = n:=by omega
 subst hcn;have hzc:(Value.cells (.agg #[.string ⟨#[]⟩,.slice none 0 0,.int .i64 0,.int .i64 0,.int .i64 0,.slice none 0 0,.slice none 0 0,.string ⟨#[]⟩,.int .i64 0])).size = 9:=by rfl
 obtain ⟨i0,hi0,hz0,hzs,hzb⟩:=info_parts infoIPlaced;have hsz:(Tryz.prog.info? 97).map (·.size) = some 9:=by rw [hi0];simp [hzs]
 have hkk:(c:Int)+1 - (i:Int) = ((c+1 - i:Nat):Int):=by omega
 have hik:i+(c+1 - i) = c+1:=by omega
 have htl:(ds.take (i * 9)).length = i * 9:=by rw [List.length_take,hdl];omega
 have hold:(Builtin.firstCells i0.size i (.slice (some ⟨g,0,none⟩) i c)).run Tryz.prog w.drew = .ok (ds.take (i * 9)).toArray w.drew:=by
  rw [hzs]
  exact run_firstCells_some w.drew 9 i ⟨g,0,none⟩ i c (ds.take (i * 9)) (by rw [htl]) (fun j v hj=>by
   rw [Addr.add_lit,Nat.zero_add];rw [List.getElem?_take] at hj;split at hj
   ·exact hcell j v hj
   ·cases hj)
 have hrz:∀ty,(Builtin.append_ #[41,3] ty #[.slice (some ⟨g,0,none⟩) i c,.int .i64 ((c:Int)+1 - (i:Int))]).run Tryz.prog w =
     .ok (.slice (some ⟨w.heap.size,0,none⟩) (c+1) (grownCap w (c+1) c 97)) (w.drew.alloc (.cells ((ds.take (i * 9)).toArray++Builtin.zeroCells (Value.cells (.agg #[.string ⟨#[]⟩,.slice none 0 0,.int .i64 0,.int .i64 0,.int .i64 0,.slice none 0 0,.slice none 0 0,.string ⟨#[]⟩,.int .i64 0])) (c+1 - i)++Builtin.zeroCells (Value.cells (.agg #[.string ⟨#[]⟩,.slice none 0 0,.int .i64 0,.int .i64 0,.int .i64 0,.slice none 0 0,.slice none 0 0,.string ⟨#[]⟩,.int .i64 0])) (grownCap w (c+1) c 97 - (c+1))) 97)):=fun ty=>by
  have h:=Lib.run_append_grow_zeros (P:=Tryz.prog) w 41 3 ty 97 i0 _ .i64 .i64 Tryz.underlying41 U' hi0 hz0 (some ⟨g,0,none⟩) i c (ds.take (i * 9)) hold (c+1 - i) O' O' O' O' (by rw [hzb];omega) (by rw [hzb,hik];exact growslice_fits O' O');rw [hik] at h;rw [hkk];exact h
 obtain ⟨G,hG⟩:∃G,G = grownCap w (c+1) c 97:=⟨_,rfl⟩;obtain ⟨ROW,hROW⟩:∃ROW:Array Value,ROW = (ds.take (i * 9)).toArray++Builtin.zeroCells (Value.cells (.agg #[.string ⟨#[]⟩,.slice none 0 0,.int .i64 0,.int .i64 0,.int .i64 0,.slice none 0 0,.slice none 0 0,.string ⟨#[]⟩,.int .i64 0])) (c+1 - i)++Builtin.zeroCells (Value.cells (.agg #[.string ⟨#[]⟩,.slice none 0 0,.int .i64 0,.int .i64 0,.int .i64 0,.slice none 0 0,.slice none 0 0,.string ⟨#[]⟩,.int .i64 0])) (G - (c+1)):=⟨_,rfl⟩;rw [← hG] at hrz;rw [← hROW] at hrz;have hGn:c+1≤G:=by rw [hG];exact grownCap_ge w _ _ _
 have hGm:G≤maxLen:=by rw [hG];exact grownCap_le_maxLen w (c+1) c 97 at6
 have hRl:ROW.size = G * 9:=by rw [hROW];simp only [Builtin.zeroCells,Array.size_append,Array.size_map,Array.size_range,List.size_toArray,htl,hzc];omega
 have hpre:∀t,t < i * 9→ROW[t]! = ds[t]!:=fun t ht=>by
  exact Zadf
 clear hROW;obtain ⟨W1,hW1⟩:∃W1,W1 = w.drew.alloc (.cells ROW 97):=⟨_,rfl⟩;rw [← hW1] at hrz;have hN:∀j,j < (c+1) * 9→(W1.cell? ⟨w.heap.size,j,none⟩).isSome = true:=fun j hj=>by
  rw [hW1,World.cell?_alloc_at (w:=w.drew) ROW _ w.heap.size j rfl,Array.getElem?_eq_getElem O'];rfl
 have hNf:∀j,W1.frozen? ⟨w.heap.size,j,none⟩ = false:=fun j=>by rw [hW1];exact World.frozen?_alloc_at (w:=w.drew) ROW _ w.heap.size j rfl
 have hOb:∀j v,w.cell? ⟨g,j,none⟩ = some v→W1.cell? ⟨g,j,none⟩ = some v:=fun j v h=>by rw [hW1,World.cell?_alloc_past (w:=w.drew) _ g j hgl];exact h
 have hOv:∀j v,w.cell? ⟨vb,j,none⟩ = some v→W1.cell? ⟨vb,j,none⟩ = some v:=fun j v h=>by rw [hW1,World.cell?_alloc_past (w:=w.drew) _ vb j hvb];exact h
 have hcpA:∀(W:World),(∀x,W.cell? x = W1.cell? x)→(∀x,W.frozen? x = W1.frozen? x)→∀ty dc,(Builtin.copy_ #[41,41] ty #[.slice (some ⟨w.heap.size,i * 9,none⟩) (c+1 - i) dc,.slice (some ⟨vb,0,none⟩) 1 1]).run Tryz.prog W = .ok (goInt 1) (W.setCells w.heap.size (i * 9) cs):=fun W hWc hWf ty dc=>by
  have:=run_copyK (P:=Tryz.prog) W 41 41 ty 97 w.heap.size (i * 9) (c+1 - i) dc ⟨vb,0,none⟩ 1 1 9 cs Tryz.underlying41 hsz (by rw [hcl];simp only [Nat.min_def];split <;> omega)
   (fun j v hj=>by rw [hWc,Addr.add_lit];have:=hnew j v hj;rw [Addr.add_lit] at this;exact hOv _ v this)
   (fun j hj=>by rw [hWc];exact hN _ (by rw [hcl] at hj;omega)) (fun j _=>by rw [hWf];exact hNf _) h1
  rw [show Nat.min 1 (c+1 - i) = 1 by simp only [Nat.min_def];split <;> omega] at this;exact this
 have hbN:g≠w.heap.size:=by omega
 have hdd:(ds.drop (i * 9)).length = (c - i) * 9:=by rw [List.length_drop,hdl];omega
 have hcpB:∀(W:World),(∀x,W.cell? x = (W1.setCells w.heap.size (i * 9) cs).cell? x)→(∀x,W.frozen? x = (W1.setCells w.heap.size (i * 9) cs).frozen? x)→∀ty dc sc,(Builtin.copy_ #[41,41] ty #[.slice (some ⟨w.heap.size,(i+1) * 9,none⟩) (c - i) dc,.slice (some ⟨g,i * 9,none⟩) (c - i) sc]).run Tryz.prog W = .ok (goInt ((c - i:Nat):Int)) (W.setCells w.heap.size ((i+1) * 9) (ds.drop (i * 9))):=fun W hWc hWf ty dc sc=>by
  have:=run_copyK (P:=Tryz.prog) W 41 41 ty 97 w.heap.size ((i+1) * 9) (c - i) dc ⟨g,i * 9,none⟩ (c - i) sc 9 (ds.drop (i * 9)) Tryz.underlying41 hsz (by rw [hdd];simp only [Nat.min_def];split <;> omega)
   (fun j v hj=>by
    rw [Addr.add_lit,hWc,World.cell?_setCells_out _ _ _ _ _ (fun h _=>absurd h hbN)]
    exact hOb _ v (hcell (i * 9+j) v (by rwa [List.getElem?_drop] at hj)))
   (fun j hj=>by rw [hWc];exact isSome_setCells _ _ _ _ (fun t ht=>hN _ (by rw [hcl] at ht;omega)) _ (hN _ (by rw [hdd] at hj;omega)))
   (fun j _=>by rw [hWf,World.frozen?_setCells];exact hNf _) (fun v hv'=>hd1 v (List.mem_of_mem_drop hv'))
  rw [show Nat.min (c - i) (c - i) = c - i by simp only [Nat.min_def];split <;> rfl] at this;exact this
 have hfin:∀W:World,W = ((W1.setCells w.heap.size (i * 9) cs).drew.setCells w.heap.size ((i+1) * 9) (ds.drop (i * 9)))→W.ownsRow B 97 9 (.slice (some ⟨w.heap.size,0,none⟩) (c+1) G) (c+1) (ds.take (i * 9)++(cs++ds.drop (i * 9)))∧w.grownBy W (some g):=fun W hW=>by
  subst hW;subst hW1;have e1:=F8 w.heap.size cs (i * 9) (w.drew.alloc (.cells ROW 97));have e2:=F8 w.heap.size (ds.drop (i * 9)) ((i+1) * 9) ((w.drew.alloc (.cells ROW 97)).setCells w.heap.size (i * 9) cs).drew;have h0:(w.drew.alloc (.cells ROW 97)).heap[w.heap.size]? = some (.cells ROW 97 (0,0)):=by show (w.heap.push _)[w.heap.size]? = _;simp
  have hh:=setCells_heap w.heap.size (ds.drop (i * 9)) ((i+1) * 9) _ _ _ _ (show (((w.drew.alloc (.cells ROW 97)).setCells w.heap.size (i * 9) cs).drew).heap[w.heap.size]? = _ from setCells_heap w.heap.size cs (i * 9) (w.drew.alloc (.cells ROW 97)) ROW 97 (0,0) h0);refine ⟨⟨by simp only [List.length_append,List.length_take,List.length_drop];omega,.inr ⟨w.heap.size,G,_,rfl,hB,hh,hGn,hGm,by simp [hRl],?_⟩⟩,⟨e2.1.trans e1.1,e2.2.1.trans e1.2.1,e2.2.2.trans e1.2.2,?_,fun k hk hne=>?_⟩⟩
  ·have:=ins_take2 ROW ds cs (i * 9) (c * 9) 9 hcl hdl O' (by rw [hRl];omega) hpre;rw [show (i+1) * 9 = i * 9+9 by omega,show (c+1) * 9 = c * 9+9 by omega];exact this
  ·rw [setCells_size];show _≤((w.drew.alloc (.cells ROW 97)).setCells w.heap.size (i * 9) cs).heap.size;rw [setCells_size];show _≤(w.heap.push _).size;simp
  ·have hkN:k≠w.heap.size:=O';rw [vV w.heap.size hkN];show ((w.drew.alloc (.cells ROW 97)).setCells w.heap.size (i * 9) cs).heap[k]? = _;rw [vV w.heap.size hkN];show (w.heap.push _)[k]? = _;rw [Array.getElem?_push,if_neg hkN]
 have HF:=I' hfin;have HRZ:=I' hrz;have HCPA:=I' hcpA;have HCPB:=I' hcpB;have hz2:¬((i:Int) = (c:Int)):=by omega
 have hz3:(c:Int) < (c:Int)+1:=by omega
 have hw1:IntKind.i64.wrap ((i:Int)+1) = (i:Int)+1:=by rw [IntKind.wrap_i64];omega
 have hb1:(0:Int)≤(i:Int)+1:=by omega
 have htn:((i:Int)+1).toNat = i+1:=by omega
 have hG63:G≤9223372036854775807:=by unfold maxLen at hGm;omega
 have hGi:¬(G = i):=by omega
 have hGim:¬(G = i+1):=by omega
 have hci:¬(c = i):=by omega
 have hin:i≤c:=by omega
 have hig:i≤G:=by omega
 have hin1:i≤c+1:=by omega
 have hHV:=I' hv;clear hfin hrz hcpA hcpB hN hNf hOb hOv hpre hold hkk hik htl hown hcell hdl hdd hnew hv h1 hd1 hcl hRl hW1 hsz hi0 hz0 hzs hzb hzc hGm hG;go_enter Tryz.func74,Tryz.ntmps74
 go_wp2_with (first
  | (at_builtin;refine Lib.wpList_append_run _ rfl _ _ _ _ rfl _ _ rfl rfl _ _ (HRZ.out _) ?_)
  | (refine wpList_copy_runI _ rfl _ _ 41 41 rfl _ _ rfl rfl (HCPA.out _ (fun _=>rfl) (fun _=>rfl) _ _) ?_))
 go_region_law (refine step_copy_runI rfl _ _ 41 41 rfl (.slice (some ⟨w.heap.size,(i+1) * 9,none⟩) (c - i) (G - (i+1))) (.slice (some ⟨g,i * 9,none⟩) (c - i) (c - i)) av7 av7 (HCPB.out (W1.setCells w.heap.size (i * 9) cs).drew (fun _=>rfl) (fun _=>rfl) _ _ _) ?_)
 go_wp2;go_ret
 exact ⟨_,rfl,(HF.out _ rfl).1,(HF.out _ rfl).2,rfl⟩
end Go.Proofs.YtkbkikggodlbbaaGreat
