/- slices.Insert of one element at []Placed, a row of the call's own. No condition. -/
import Derived.Test.YtdegaofigemegaaGreatCompK
import Derived.Test.YtdegaofigemegaaGreatCopyC
namespace Go.Proofs.YtdegaofigemegaaGreat
open Go.ChangeShapes Go.WideShapes Go.ChangeAt Go.RowKit
set_option linter.unusedVariables false
set_option linter.unusedSimpArgs false
set_option maxHeartbeats 8000000
set_option maxRecDepth 100000
theorem Wf:(Tryz.prog.info? 47).map (λi=>(i.zero,i.size,i.bytes)) = some (some (.agg #[.string ⟨#[]⟩,.slice none 0 0,.int .i64 0,.int .i64 0,.int .i64 0,.slice none 0 0,.slice none 0 0,.string ⟨#[]⟩,.int .i64 0]),9,136):=by kernel_rfl
theorem ov:DL Tryz.prog 25 47 (.agg #[.string ⟨#[]⟩,.slice none 0 0,.int .i64 0,.int .i64 0,.int .i64 0,.slice none 0 0,.slice none 0 0,.string ⟨#[]⟩,.int .i64 0]) 9 136:=⟨Tryz.underlying25,Wf,rfl,J⟩
theorem mz (w:World) (B vb:Nat) (cs:List Value) (hB:B<=w.heap.size) (tv:TypeId) (cR:cs.length = 9) (h1:∀u∈cs,u.oneCell' = true) (hv:w.heap[vb]? = some (.cells cs.toArray tv (0,0))) :
 Calls Tryz.prog 39 #[.slice none 0 0,.int .i64 0,.slice (some ⟨vb,0,none⟩) 1 1] w λe w'=>∃v',e = .returned v'/\w'.ownsRow B 47 9 v' 1 cs/\w.grownBy w' none/\(v'.ownBlock = none∨v'.ownBlock = some w.heap.size):=by
 have fL:∀q u,cs[q]? = some u->w.cell? ((⟨vb,0,none⟩:Addr).add q) = some u:=λq u hu=>by
  exact oI
 have HV:=I hv;clear hv;go_enter Tryz.func39,Tryz.ntmps39
 go_wp2_with (
  at_builtin
  go_must (refine xW ov J' _ _ J' w B _ 0 [] (World.ownsRow_nil w _ _ _) J' ⟨vb,0,none⟩ 1 1 cs J' (by rw [cR]) fL h1 J J hB ?_)
  intro v2 w2 aw hg cF)
 rw [Nat.zero_add,List.nil_append] at aw;go_ret
 exact ⟨v2,rfl,aw,hg,cF⟩
theorem mA (w:World) (B g n c vb:Nat) (ds cs:List Value) (hB:B<=w.heap.size) (aw:w.ownsRow B 47 9 (.slice (some ⟨g,0,none⟩) n c) n ds) (hn:n<=1048576) (hc:c<=9223372036854775807) (tv:TypeId) (cR:cs.length = 9) (h1:∀u∈cs,u.oneCell' = true) (hv:w.heap[vb]? = some (.cells cs.toArray tv (0,0))) :
 Calls Tryz.prog 39 #[.slice (some ⟨g,0,none⟩) n c,.int .i64 n,.slice (some ⟨vb,0,none⟩) 1 1] w λe w'=>∃v',e = .returned v'/\w'.ownsRow B 47 9 v' (n+1) (ds++cs)/\w.grownBy w' (some g)/\(v'.ownBlock = some g∨v'.ownBlock = some w.heap.size):=by
 have fL:∀q u,cs[q]? = some u->w.cell? ((⟨vb,0,none⟩:Addr).add q) = some u:=λq u hu=>by
  exact oI
 obtain ⟨_,iJ,hnc,_⟩:=IE aw;have HV:=I hv;have di:=I aw;clear hv aw;go_enter Tryz.func39,Tryz.ntmps39
 go_wp2_with (
  at_builtin
  go_must (refine xW ov J' _ _ J' w B _ n ds di.out J' ⟨vb,0,none⟩ 1 1 cs J' (by rw [cR]) fL h1 J J hB ?_)
  intro v2 w2 aw hg cF)
 all_goals
  go_ret
  exact ⟨v2,rfl,aw,hg,cF⟩
theorem kC (w:World) (B g n c i vb:Nat) (ds cs:List Value) (hB:B<=w.heap.size) (aw:w.ownsRow B 47 9 (.slice (some ⟨g,0,none⟩) n c) n ds) (hn:n<=1048576) (hc:c<=9223372036854775807) (hi:i < n) (ja:n+1<=c) (zh:vb≠g) (ke:∀u∈ds,u.oneCell' = true) (tv:TypeId) (cR:cs.length = 9) (h1:∀u∈cs,u.oneCell' = true) (hv:w.heap[vb]? = some (.cells cs.toArray tv (0,0))) :
 Calls Tryz.prog 39 #[.slice (some ⟨g,0,none⟩) n c,.int .i64 i,.slice (some ⟨vb,0,none⟩) 1 1] w λe w'=>e = .returned (.slice (some ⟨g,0,none⟩) (n+1) c)/\w'.ownsRow B 47 9 (.slice (some ⟨g,0,none⟩) (n+1) c) (n+1) (ds.take (i * 9)++(cs++ds.drop (i * 9)))/\w.grownBy w' (some g):=by
 have fL:∀q u,cs[q]? = some u->w.cell? ((⟨vb,0,none⟩:Addr).add q) = some u:=λq u hu=>by
  exact oI
 obtain ⟨zj,iJ,_,bv⟩:=IE aw;have cM:ds.length = n * 9:=aw.1;obtain ⟨cj,hcur,dC,hct⟩:∃cj:Array Value,w.heap[g]? = some (.cells cj 47 (0,0))/\cj.size = c * 9/\cj.toList.take (n * 9) = ds:=by exact L8
 have nw:∀j,j < c * 9->(w.cell? ⟨g,j,none⟩).isSome = true:=λj hj=>by rw [cell_of_row w g j cj _ (0,0) hcur,Array.getElem?_eq_getElem (by rw [dC];exact hj)];rfl
 have sC:∀j,w.frozen? ⟨g,j,none⟩ = false:=λj=>by simp [World.frozen?,hcur]
 have d9:(Tryz.prog.info? 47).map (·.size) = some 9:=by obtain ⟨i0,gw,h0,h1,h2⟩:=info_parts Wf;rw [gw];simp [h1]
 have Oc:∀lb cb,(callFunc 76 #[.slice (some ⟨vb,0,none⟩) 1 1,.slice (some ⟨g,(i+1) * 9,none⟩) lb cb]).run Tryz.prog w = .ok (.value (.bool false)) w:=λlb cb=>by
  rw [run_callFunc_extern Tryz.func76 U' U' U' (e:=Extern.SlicesOverlaps.overlaps #[25,25] #[4]) U',
    Lib.run_overlaps_apart w 25 4 47 Tryz.underlying25 9 Tryz.sizeOf47 ⟨vb,0,none⟩ ⟨g,(i+1) * 9,none⟩ 1 1 lb cb zh tv 47 cs.length cj.size (by simp [World.shape?,hv]) (by simp [World.shape?,hcur]) (by rw [dC];omega) (by simp [World.frozen?,hv]) (by simp [World.frozen?,hv])]
  rfl
 have pP:(ds.drop (i * 9)).length = (n - i) * 9:=by rw [List.length_drop,cM];omega
 have pQ:∀ty dc sc,(Builtin.copy_ #[25,25] ty #[.slice (some ⟨g,(i+1) * 9,none⟩) (n - i) dc,.slice (some ⟨g,i * 9,none⟩) (n+1 - i) sc]).run Tryz.prog w.drew = .ok (goInt ((n - i:Nat):Int)) (w.drew.setCells g ((i+1) * 9) (ds.drop (i * 9))):=λty dc sc=>by
  have:=db (P:=Tryz.prog) w.drew 25 25 ty 47 g ((i+1) * 9) (n - i) dc ⟨g,i * 9,none⟩ (n+1 - i) sc 9 (ds.drop (i * 9)) Tryz.underlying25 d9 (by rw [pP];simp only [Nat.min_def];split <;> omega)
   (λj v hj=>by rw [Addr.add_lit];exact bv (i * 9+j) v (by rwa [List.getElem?_drop] at hj)) (λj hj=>nw _ J) (λj _=>sC _) (λv tk=>ke v (List.mem_of_mem_drop tk))
  exact MN
 have pS:∀(W:World),(∀x,W.cell? x = (w.drew.setCells g ((i+1) * 9) (ds.drop (i * 9))).cell? x)->(∀x,W.frozen? x = (w.drew.setCells g ((i+1) * 9) (ds.drop (i * 9))).frozen? x)->∀ty dc,(Builtin.copy_ #[25,25] ty #[.slice (some ⟨g,i * 9,none⟩) (n+1 - i) dc,.slice (some ⟨vb,0,none⟩) 1 1]).run Tryz.prog W = .ok (goInt 1) (W.setCells g (i * 9) cs):=λW o0 uR ty dc=>by
  have:=db (P:=Tryz.prog) W 25 25 ty 47 g (i * 9) (n+1 - i) dc ⟨vb,0,none⟩ 1 1 9 cs Tryz.underlying25 d9 (by rw [cR];simp only [Nat.min_def];split <;> omega)
   (λj v hj=>by rw [o0,Addr.add_lit,World.cell?_setCells_out g _ _ _ _ (λh _=>absurd h zh)];have:=fL j v hj;rwa [Addr.add_lit] at this)
   (λj hj=>by rw [o0];exact isSome_setCells g _ _ w.drew (λt ht=>nw ((i+1) * 9+t) (by rw [pP] at ht;omega)) _ (nw (i * 9+j) (by rw [cR] at hj;omega))) (λj _=>by rw [uR,World.frozen?_setCells];exact sC _) h1
  rw [show Nat.min 1 (n+1 - i) = 1 by simp only [Nat.min_def];split <;> omega] at this;exact this
 have br:∀W:World,W = (w.drew.setCells g ((i+1) * 9) (ds.drop (i * 9))).setCells g (i * 9) cs->W.ownsRow B 47 9 (.slice (some ⟨g,0,none⟩) (n+1) c) (n+1) (ds.take (i * 9)++(cs++ds.drop (i * 9)))/\w.grownBy W (some g):=λW hW=>by
  subst hW;have e1:=F8 g (ds.drop (i * 9)) ((i+1) * 9) w.drew;have e2:=F8 g cs (i * 9) (w.drew.setCells g ((i+1) * 9) (ds.drop (i * 9)));have hh:=zg g cs (i * 9) _ _ _ _ (zg g (ds.drop (i * 9)) ((i+1) * 9) w.drew cj 47 (0,0) hcur);refine ⟨⟨by simp only [List.length_append,List.length_take,List.length_drop];omega,.inr ⟨g,c,_,rfl,zj,hh,ja,by unfold maxLen;omega,by simp [dC],?_⟩⟩,⟨e2.1.trans e1.1,e2.2.1.trans e1.2.1,e2.2.2.trans e1.2.2,by rw [bk,bk];exact Nat.le_refl _,λk hk bI=>?_⟩⟩
  ·have:=oW cj ds cs (i * 9) (n * 9) 9 cR cM J (by rw [dC];omega) (λt ht=>by
    have h2:t < n * 9:=J;rw [getElem!_pos cj t (by rw [dC];omega),getElem!_pos ds t J];have h3:(cj.toList.take (n * 9))[t]? = ds[t]?:=(by rw [hct]);rw [List.getElem?_take,if_pos h2,List.getElem?_eq_getElem (by rw [Array.length_toList,dC];omega),List.getElem?_eq_getElem J] at h3
    simpa using h3)
   rw [show (i+1) * 9 = i * 9+9 by omega,show (n+1) * 9 = n * 9+9 by omega];exact this
  ·have Od:k≠g:=λe=>bI (by rw [e]);rw [vV g Od,vV g Od];rfl
 have HF:=I br;obtain ⟨W1,hW1⟩:∃W1,W1 = w.drew.setCells g ((i+1) * 9) (ds.drop (i * 9)):=⟨_,rfl⟩;rw [<- hW1] at pQ pS;have Vh:=I hW1;have E4:=I pQ;have E6:=I pS;have Vi:=I Oc;have HHV:=I hv;have mH:IntKind.i64.wrap ((i:Int)+1) = (i:Int)+1:=by rw [IntKind.wrap_i64];omega
 have aR:(0:Int)<=(i:Int)+1:=by omega
 have Vj:((i:Int)+1).toNat = i+1:=by omega
 have ca:¬((i:Int) = (n:Int)):=by omega
 have am:¬(c = i+1):=by omega
 have az:(i:Int)<=(n:Int)+1:=by omega
 have bm:¬(c = i):=by omega
 have mv:i<=n:=by omega
 clear br hcur dC hct nw sC d9 pP hW1 pQ pS Oc fL aw bv cM hv ke h1 cR;go_enter Tryz.func39,Tryz.ntmps39;go_wp2_with (simp only [Vi.out])
 go_region_law (refine step_copy_runI rfl _ _ 25 25 rfl (.slice (some ⟨g,(i+1) * 9,none⟩) (n - i) (c - (i+1))) (.slice (some ⟨g,i * 9,none⟩) (n+1 - i) (c - i)) tw tw (E4.out _ _ _) ?_)
 go_wp2_with (refine wpList_copy_runI _ rfl _ _ 25 25 rfl _ _ rfl rfl (E6.out _ (λ_=>rfl) (λ_=>rfl) _ _) ?_)
 go_ret
 exact ⟨rfl,HF.out _ (by rw [Vh.out])⟩
theorem lT (w:World) (B g n c i vb:Nat) (ds cs:List Value) (hB:B<=w.heap.size) (aw:w.ownsRow B 47 9 (.slice (some ⟨g,0,none⟩) n c) n ds) (hn:n<=1048576) (hi:i < n) (ja:c < n+1) (zh:vb < w.heap.size) (ke:∀u∈ds,u.oneCell' = true) (tv:TypeId) (cR:cs.length = 9) (h1:∀u∈cs,u.oneCell' = true) (hv:w.heap[vb]? = some (.cells cs.toArray tv (0,0))) :
 Calls Tryz.prog 39 #[.slice (some ⟨g,0,none⟩) n c,.int .i64 i,.slice (some ⟨vb,0,none⟩) 1 1] w λe w'=>∃v',e = .returned v'/\w'.ownsRow B 47 9 v' (n+1) (ds.take (i * 9)++(cs++ds.drop (i * 9)))/\w.grownBy w' (some g)/\v'.ownBlock = some w.heap.size:=by
 have fL:∀q u,cs[q]? = some u->w.cell? ((⟨vb,0,none⟩:Addr).add q) = some u:=λq u hu=>by
  exact oI
 obtain ⟨zj,iJ,hnc,bv⟩:=IE aw;have cM:ds.length = n * 9:=aw.1;have kq:c = n:=by omega
 subst kq;have yK:(Value.cells (.agg #[.string ⟨#[]⟩,.slice none 0 0,.int .i64 0,.int .i64 0,.int .i64 0,.slice none 0 0,.slice none 0 0,.string ⟨#[]⟩,.int .i64 0])).size = 9:=by rfl
 obtain ⟨i0,gw,bX,gP,o3⟩:=info_parts Wf;have d9:(Tryz.prog.info? 47).map (·.size) = some 9:=by rw [gw];simp [gP]
 have pT:(c:Int)+1 - (i:Int) = ((c+1 - i:Nat):Int):=by omega
 have od:i+(c+1 - i) = c+1:=by omega
 have gg:(ds.take (i * 9)).length = i * 9:=by rw [List.length_take,cM];omega
 have hold:(Builtin.firstCells i0.size i (.slice (some ⟨g,0,none⟩) i c)).run Tryz.prog w.drew = .ok (ds.take (i * 9)).toArray w.drew:=by
  rw [gP]
  exact run_firstCells_some w.drew 9 i ⟨g,0,none⟩ i c (ds.take (i * 9)) (by rw [gg]) (λj v hj=>by
   rw [Addr.add_lit,Nat.zero_add];rw [List.getElem?_take] at hj;split at hj
   ·exact bv j v hj
   ·cases hj)
 have pr:∀ty,(Builtin.append_ #[25,3] ty #[.slice (some ⟨g,0,none⟩) i c,.int .i64 ((c:Int)+1 - (i:Int))]).run Tryz.prog w =
     .ok (.slice (some ⟨w.heap.size,0,none⟩) (c+1) (grownCap w (c+1) c 47)) (w.drew.alloc (.cells ((ds.take (i * 9)).toArray++Builtin.zeroCells (Value.cells (.agg #[.string ⟨#[]⟩,.slice none 0 0,.int .i64 0,.int .i64 0,.int .i64 0,.slice none 0 0,.slice none 0 0,.string ⟨#[]⟩,.int .i64 0])) (c+1 - i)++Builtin.zeroCells (Value.cells (.agg #[.string ⟨#[]⟩,.slice none 0 0,.int .i64 0,.int .i64 0,.int .i64 0,.slice none 0 0,.slice none 0 0,.string ⟨#[]⟩,.int .i64 0])) (grownCap w (c+1) c 47 - (c+1))) 47)):=λty=>by
  have h:=Lib.run_append_grow_zeros (P:=Tryz.prog) w 25 3 ty 47 i0 _ .i64 .i64 Tryz.underlying25 U' gw bX (some ⟨g,0,none⟩) i c (ds.take (i * 9)) hold (c+1 - i) J J J J (by rw [o3];omega) (by rw [o3,od];exact growslice_fits J J);rw [od] at h;rw [pT];exact h
 obtain ⟨G,hG⟩:∃G,G = grownCap w (c+1) c 47:=⟨_,rfl⟩;obtain ⟨gv,hROW⟩:∃gv:Array Value,gv = (ds.take (i * 9)).toArray++Builtin.zeroCells (Value.cells (.agg #[.string ⟨#[]⟩,.slice none 0 0,.int .i64 0,.int .i64 0,.int .i64 0,.slice none 0 0,.slice none 0 0,.string ⟨#[]⟩,.int .i64 0])) (c+1 - i)++Builtin.zeroCells (Value.cells (.agg #[.string ⟨#[]⟩,.slice none 0 0,.int .i64 0,.int .i64 0,.int .i64 0,.slice none 0 0,.slice none 0 0,.string ⟨#[]⟩,.int .i64 0])) (G - (c+1)):=⟨_,rfl⟩;rw [<- hG] at pr;rw [<- hROW] at pr;have Vk:c+1<=G:=by rw [hG];exact grownCap_ge w _ _ _
 have uS:G<=maxLen:=by rw [hG];exact grownCap_le_maxLen w (c+1) c 47 pE
 have E7:gv.size = G * 9:=by exact MA
 have nv:∀t,t < i * 9->gv[t]! = ds[t]!:=λt ht=>by
  exact L7
 clear hROW;obtain ⟨W1,hW1⟩:∃W1,W1 = w.drew.alloc (.cells gv 47):=⟨_,rfl⟩;rw [<- hW1] at pr;have hN:∀j,j < (c+1) * 9->(W1.cell? ⟨w.heap.size,j,none⟩).isSome = true:=λj hj=>by
  exact MS
 have E9:∀j,W1.frozen? ⟨w.heap.size,j,none⟩ = false:=λj=>by rw [hW1];exact World.frozen?_alloc_at (w:=w.drew) gv _ w.heap.size j rfl
 have Oe:∀j v,w.cell? ⟨g,j,none⟩ = some v->W1.cell? ⟨g,j,none⟩ = some v:=λj v h=>by rw [hW1,World.cell?_alloc_past (w:=w.drew) _ g j iJ];exact h
 have tC:∀j v,w.cell? ⟨vb,j,none⟩ = some v->W1.cell? ⟨vb,j,none⟩ = some v:=λj v h=>by rw [hW1,World.cell?_alloc_past (w:=w.drew) _ vb j zh];exact h
 have uT:∀(W:World),(∀x,W.cell? x = W1.cell? x)->(∀x,W.frozen? x = W1.frozen? x)->∀ty dc,(Builtin.copy_ #[25,25] ty #[.slice (some ⟨w.heap.size,i * 9,none⟩) (c+1 - i) dc,.slice (some ⟨vb,0,none⟩) 1 1]).run Tryz.prog W = .ok (goInt 1) (W.setCells w.heap.size (i * 9) cs):=λW o0 uR ty dc=>by
  have:=db (P:=Tryz.prog) W 25 25 ty 47 w.heap.size (i * 9) (c+1 - i) dc ⟨vb,0,none⟩ 1 1 9 cs Tryz.underlying25 d9 (by rw [cR];simp only [Nat.min_def];split <;> omega)
   (λj v hj=>by rw [o0,Addr.add_lit];have:=fL j v hj;rw [Addr.add_lit] at this;exact tC _ v this)
   (λj hj=>by rw [o0];exact hN _ (by rw [cR] at hj;omega)) (λj _=>by rw [uR];exact E9 _) h1
  rw [show Nat.min 1 (c+1 - i) = 1 by simp only [Nat.min_def];split <;> omega] at this;exact this
 have Vl:g≠w.heap.size:=by omega
 have pP:(ds.drop (i * 9)).length = (c - i) * 9:=by rw [List.length_drop,cM];omega
 have uW:∀(W:World),(∀x,W.cell? x = (W1.setCells w.heap.size (i * 9) cs).cell? x)->(∀x,W.frozen? x = (W1.setCells w.heap.size (i * 9) cs).frozen? x)->∀ty dc sc,(Builtin.copy_ #[25,25] ty #[.slice (some ⟨w.heap.size,(i+1) * 9,none⟩) (c - i) dc,.slice (some ⟨g,i * 9,none⟩) (c - i) sc]).run Tryz.prog W = .ok (goInt ((c - i:Nat):Int)) (W.setCells w.heap.size ((i+1) * 9) (ds.drop (i * 9))):=λW o0 uR ty dc sc=>by
  have:=db (P:=Tryz.prog) W 25 25 ty 47 w.heap.size ((i+1) * 9) (c - i) dc ⟨g,i * 9,none⟩ (c - i) sc 9 (ds.drop (i * 9)) Tryz.underlying25 d9 (by rw [pP];simp only [Nat.min_def];split <;> omega)
   (λj v hj=>by
    rw [Addr.add_lit,o0,World.cell?_setCells_out _ _ _ _ _ (λh _=>absurd h Vl)]
    exact Oe _ v (bv (i * 9+j) v (by rwa [List.getElem?_drop] at hj)))
   (λj hj=>by rw [o0];exact isSome_setCells _ _ _ _ (λt ht=>hN _ (by rw [cR] at ht;omega)) _ (hN _ (by rw [pP] at hj;omega)))
   (λj _=>by rw [uR,World.frozen?_setCells];exact E9 _) (λv tk=>ke v (List.mem_of_mem_drop tk))
  exact MP
 have br:∀W:World,W = ((W1.setCells w.heap.size (i * 9) cs).drew.setCells w.heap.size ((i+1) * 9) (ds.drop (i * 9)))->W.ownsRow B 47 9 (.slice (some ⟨w.heap.size,0,none⟩) (c+1) G) (c+1) (ds.take (i * 9)++(cs++ds.drop (i * 9)))/\w.grownBy W (some g):=λW hW=>by
  subst hW;subst hW1;have e1:=F8 w.heap.size cs (i * 9) (w.drew.alloc (.cells gv 47));have e2:=F8 w.heap.size (ds.drop (i * 9)) ((i+1) * 9) ((w.drew.alloc (.cells gv 47)).setCells w.heap.size (i * 9) cs).drew;have h0:(w.drew.alloc (.cells gv 47)).heap[w.heap.size]? = some (.cells gv 47 (0,0)):=by show (w.heap.push _)[w.heap.size]? = _;simp
  have hh:=zg w.heap.size (ds.drop (i * 9)) ((i+1) * 9) _ _ _ _ (show (((w.drew.alloc (.cells gv 47)).setCells w.heap.size (i * 9) cs).drew).heap[w.heap.size]? = _ from zg w.heap.size cs (i * 9) (w.drew.alloc (.cells gv 47)) gv 47 (0,0) h0);refine ⟨⟨by simp only [List.length_append,List.length_take,List.length_drop];omega,.inr ⟨w.heap.size,G,_,rfl,hB,hh,Vk,uS,by simp [E7],?_⟩⟩,⟨e2.1.trans e1.1,e2.2.1.trans e1.2.1,e2.2.2.trans e1.2.2,?_,λk hk bI=>?_⟩⟩
  ·have:=mP gv ds cs (i * 9) (c * 9) 9 cR cM J (by rw [E7];omega) nv;rw [show (i+1) * 9 = i * 9+9 by omega,show (c+1) * 9 = c * 9+9 by omega];exact this
  ·rw [bk];show _<=((w.drew.alloc (.cells gv 47)).setCells w.heap.size (i * 9) cs).heap.size;rw [bk];show _<=(w.heap.push _).size;simp
  ·have E':k≠w.heap.size:=J;rw [vV w.heap.size E'];show ((w.drew.alloc (.cells gv 47)).setCells w.heap.size (i * 9) cs).heap[k]? = _;rw [vV w.heap.size E'];show (w.heap.push _)[k]? = _;rw [Array.getElem?_push,if_neg E']
 have HF:=I br;have Ib:=I pr;have Fc:=I uT;have Fe:=I uW;have ca:¬((i:Int) = (c:Int)):=by omega
 have eB:(c:Int) < (c:Int)+1:=by omega
 have mH:IntKind.i64.wrap ((i:Int)+1) = (i:Int)+1:=by rw [IntKind.wrap_i64];omega
 have aR:(0:Int)<=(i:Int)+1:=by omega
 have Vj:((i:Int)+1).toNat = i+1:=by omega
 have Vn:G<=9223372036854775807:=by unfold maxLen at uS;omega
 have hGi:¬(G = i):=by omega
 have Vt:¬(G = i+1):=by omega
 have Bi:¬(c = i):=by omega
 have mv:i<=c:=by omega
 have hig:i<=G:=by omega
 have Vu:i<=c+1:=by omega
 have hHV:=I hv;clear br pr uT uW hN E9 Oe tC nv hold pT od gg aw bv cM pP fL hv h1 ke cR E7 hW1 d9 gw bX gP o3 yK uS hG;go_enter Tryz.func39,Tryz.ntmps39
 go_wp2_with (first
  | (at_builtin;refine Lib.wpList_append_run _ rfl _ _ _ _ rfl _ _ rfl rfl _ _ (Ib.out _) ?_)
  | (refine wpList_copy_runI _ rfl _ _ 25 25 rfl _ _ rfl rfl (Fc.out _ (λ_=>rfl) (λ_=>rfl) _ _) ?_))
 go_region_law (refine step_copy_runI rfl _ _ 25 25 rfl (.slice (some ⟨w.heap.size,(i+1) * 9,none⟩) (c - i) (G - (i+1))) (.slice (some ⟨g,i * 9,none⟩) (c - i) (c - i)) tw tw (Fe.out (W1.setCells w.heap.size (i * 9) cs).drew (λ_=>rfl) (λ_=>rfl) _ _ _) ?_)
 go_wp2;go_ret
 exact ⟨_,rfl,(HF.out _ rfl).1,(HF.out _ rfl).2,rfl⟩
theorem akH (x:aU) (cs:List Value) (F:List Nat) (w:World) (h:rd w x cs F) (hl:(x.M.length:Int)<=1048576) :
 Calls Tryz.prog 84 #[.agg cs.toArray] w λe w'=>∃A c G,e = .returned (.slice A (GI x.M).length c)/\ai w' w.heap.size (GI x.M) [.slice A (GI x.M).length c] G/\Below w.heap.size w w':=by
 obtain ⟨bG,bD,fQ,dn,bW,jg,ar,qp,bQ,dM,hnext,aV,aP,aW⟩:=aO h;subst ar;clear qp;go_enter Tryz.func84,Tryz.ntmps84;go_wp2_with fail
 go_loopw [3,4] (λv i wr=>∃(k:Nat) (is:List Nat) (g cap:Nat),k<=x.M.length/\is.length<=k/\i = .int .i64 (k:Int)/\v = .slice (some ⟨g,0,none⟩) is.length cap/\Hid (∀z∈is,z < x.M.length)/\Hid (is.map (rT x.M) = bd (kS sP) [] (kF (x.M.take k)))/\wr.ownsRow (w.heap.size+1) 3 1 (.slice (some ⟨g,0,none⟩) is.length cap) is.length (is.map (λj:Nat=>Value.int .i64 (j:Int)))/\wr.cell? ⟨w.heap.size,1,none⟩ = some (.slice dn x.M.length bW)/\Below w.heap.size w wr) (λ_ i _=>x.M.length - (intOf i).toNat)
 case atStart =>
  refine ⟨0,[],w.heap.size+1,0,Nat.zero_le _,Nat.le_refl _,rfl,S',I (λz hz=>by cases hz),I rfl,?_,?_,ak (ak (aj _) _) _⟩
  ·exact D9 (w.alloc (.cells #[.slice bG x.O.length bD,.slice dn x.M.length bW,.int .i64 x.next,.int .i64 x.weights.pack,.int .i64 x.weights.spread,.int .i64 x.weights.soft] 29)) 3 1 (w.heap.size+1) S'
  ·exact L4
 case round =>
  obtain ⟨k,is,g,cap,hk,od,rfl,rfl,HIS,HMAP,bB,hqc,aM⟩:=hrel;have N6:w.heap.size < wr.heap.size:=World.block_lt_of_cell? wr _ hqc;by_cases ap:k < x.M.length
  ·obtain ⟨wo,hwo⟩:∃wo,wo = wr:=⟨_,rfl⟩;subst hwo;obtain ⟨b,o,rfl,hbs,hpc⟩:=Xy dM J;have HPC:=I hpc;clear hpc;obtain ⟨y,Bu,FJ,te,qe⟩:=HPC.out k ap;have fq:b < wo.heap.size:=Nat.lt_of_lt_of_le hbs aM.size;have tQ:wo.cell? ⟨b,o+k * 9,none⟩ = some (.string y.name):=r' aM (qe 0 _ rfl) hbs;have tR:wo.cell? ⟨b,o+k * 9+1,none⟩ = some (.slice y.la y.ln y.lc):=r' aM (qe 1 _ rfl) hbs;have qy2:wo.cell? ⟨b,o+k * 9+2,none⟩ = some (.int .i64 y.aq):=r' aM (qe 2 _ rfl) hbs;have qy3:wo.cell? ⟨b,o+k * 9+3,none⟩ = some (.int .i64 y.mem):=r' aM (qe 3 _ rfl) hbs;have qy4:wo.cell? ⟨b,o+k * 9+4,none⟩ = some (.int .i64 y.av):=r' aM (qe 4 _ rfl) hbs;have qy5:wo.cell? ⟨b,o+k * 9+5,none⟩ = some (.slice y.na y.nn y.nc):=r' aM (qe 5 _ rfl) hbs;have qy6:wo.cell? ⟨b,o+k * 9+6,none⟩ = some (.slice y.ta y.tn y.tc):=r' aM (qe 6 _ rfl) hbs;have qy7:wo.cell? ⟨b,o+k * 9+7,none⟩ = some (.string y.on):=r' aM (qe 7 _ rfl) hbs;have qy8:wo.cell? ⟨b,o+k * 9+8,none⟩ = some (.int .i64 y.seq):=r' aM (qe 8 _ rfl) hbs;have HYC:=I qe;have HYK:=I Bu;cases hp:(x.M[k].on.toList == []) with
   | false =>
     have HN:=I (apO ap hp);have ze:(y.on.toList == []) = false:=(by rw [FJ];exact hp);have UV:(y.on.toList != []) = true:=(by rw [bne,ze];rfl);clear qe FJ Bu hp;go_wp2_with fail
     exact ⟨⟨k+1,is,g,cap,J,J,N',rfl,HIS,I (by rw [HN.out];exact HMAP.out),bB,hqc,aM⟩,by simp [intOf];omega⟩
   | true =>
     have ze:(y.on.toList == []) = true:=(by rw [FJ];exact hp);have UV:(y.on.toList != []) = false:=(by rw [bne,ze];rfl);have eh:bd (kS sP) [] (kF (x.M.take (k+1))) = OM (kS sP) (nB y) (bd (kS sP) [] (kF (x.M.take k))):=(by rw [anD ap hp,V3,Bu]);have Jf:=I eh;have TL:=I (show rT x.M k = nB y by rw [SI ap,Bu]);have fv:=I aM;have jD:=I bB;have Xz:=I hqc;obtain ⟨_,hgo,hgc,ahU⟩:=IE bB;have nA:=I ahU;clear qe FJ Bu hp eh bB ahU;go_wp2_with fail
     go_loopw [5] (λj wr=>∃(s1 s2:List Nat) (jj:Nat),Hid (is = s1++s2)/\j = .int .i64 (jj:Int)/\Hid (s1.length = jj)/\Hid (∀z∈s1,kS sP (nB y) (rT x.M z) = false)/\Below wo.heap.size wo wr) (λj _=>is.length - (intOf j).toNat)
     case atStart=>exact ⟨[],is,0,I rfl,rfl,I rfl,I (λz hz=>by cases hz),aj _⟩
     case round =>
      obtain ⟨s1,s2,jj,HE,rfl,HJ,HN,bC⟩:=hrel;have mc:∀bq oq u,wo.cell? ⟨bq,oq,none⟩ = some u->bq < wo.heap.size->wr.cell? ⟨bq,oq,none⟩ = some u:=λbq oq u h1 h2=>(bC.cell (p:=⟨bq,oq,none⟩) h2).trans h1;have R4:=mc _ _ _ Xz.out N6;replace tQ:=mc _ _ _ tQ fq;replace tR:=mc _ _ _ tR fq;replace qy2:=mc _ _ _ qy2 fq;replace qy3:=mc _ _ _ qy3 fq;replace qy4:=mc _ _ _ qy4 fq;replace qy5:=mc _ _ _ qy5 fq;replace qy6:=mc _ _ _ qy6 fq;replace qy7:=mc _ _ _ qy7 fq;replace qy8:=mc _ _ _ qy8 fq;have MC:=I mc;have qa:wo.heap.size<=wr.heap.size:=bC.size;have pI:b < wr.heap.size:=J;have aaH:w.heap.size < wr.heap.size:=J;have mL:g < wr.heap.size:=J;clear mc;cases s2 with
      | nil =>
        have fI:jj = is.length:=(by have e1:=HE.out;have e3:=HJ.out;rw [e1,List.append_nil];exact e3.symm);have sE:is.length<=jj:=J;have sF:decide ((jj:Int) < (is.length:Int)) = false:=(by simp;omega);have sH:decide (jj < is.length) = false:=(by simp;omega);have Il:=I (show (s1++k :: ([]:List Nat)).length = is.length+1 by rw [List.length_append,HJ.out,fI];rfl);have asT:=I (show ([]:List Nat).map (rT x.M) = []∨∃z s',([]:List Nat).map (rT x.M) = z :: s'/\kS sP (nB y) z = true from .inl rfl);clear fI;go_wp2_with fail
        refine aF wr U' U' (aj _) ?_
        repeat ((first | refine aG J' ?_ | refine aH _ J' LR ?_);simp only [Act.put,pz])
        refine aN ?_;intro wn hn;replace hn:=hn.out;have bs:Below wo.heap.size wo wn:=ah bC hn;have RJ:=mG jD.out bs;obtain ⟨_,fy,apy,V4⟩:=IE RJ
        have eK:=I (show ∀q u,(s1.map (λj:Nat=>Value.int .i64 (j:Int)))[q]? = some u->wn.cell? ⟨g,0+q,none⟩ = some u from λq u hu=>by
         rw [Nat.zero_add];refine V4 q u ?_
         rw [HE.out,List.map_append,List.getElem?_append_left (List.getElem?_eq_some_iff.1 hu).1];exact hu)
        have Gn:=I (show ∀q u,((([]:List Nat)).map (λj:Nat=>Value.int .i64 (j:Int)))[q]? = some u->wn.cell? ⟨g,jj+q,none⟩ = some u from λq u hu=>by
         refine V4 (jj+q) u ?_
         rw [HE.out,List.map_append,List.getElem?_append_right EH,List.length_map,HJ.out,Nat.add_sub_cancel_left];exact hu)
        have cA:jj+(([]:List Nat)).length = is.length:=(by have e1:=congrArg List.length HE.out;have e3:=HJ.out;rw [List.length_append] at e1;omega);have bz:is.length - jj = (([]:List Nat)).length:=J;have pp:=I bz;have rp:jj<=is.length:=J;have pv:jj<=cap:=J;have kd:=I bs;have BE:is.length<=1048576:=J;clear RJ V4 cA bs bz;have cC:∃A0:Addr,(if cap = jj then some (⟨g,0,none⟩:Addr) else some ⟨g,jj,none⟩) = some A0/\Hid (A0.block = g/\∀q u,((([]:List Nat)).map (λj:Nat=>Value.int .i64 (j:Int)))[q]? = some u->∀w7:World,w7.cell? (A0.add q) = some u):=by exact NE
        obtain ⟨A0,hA0,asg⟩:=cC
        go_wp2_with (first
         | (at_builtin
            refine xW IP J' _ _ J' (wn.alloc (.cells #[] 3)) wn.heap.size _ 0 [] (D9 wn 3 1 wn.heap.size rfl) J' ⟨g,0,none⟩ jj cap (s1.map (λj:Nat=>Value.int .i64 (j:Int))) J' AD (λq u hu=>by rw [Addr.add_lit];exact (World.cell?_of_block (heap_alloc_old _ _ fy)).trans (eK.out q u hu)) (λu hu=>by obtain ⟨z0,_,rfl⟩:=List.mem_map.1 hu;rfl) J J S' ?_;intro v5 w5 bc cg gd;rw [List.nil_append] at bc
            have bu:Below wn.heap.size wn w5:=Below.grown (ak (aj _) _) cg S' (λq hq=>by simp [Value.ownBlock] at hq;omega))
         | (at_builtin
            refine xW IP J' _ _ J' (w5.alloc (.cells #[.int .i64 (k:Int)] 3)) wn.heap.size v5 _ _ (mG bc (ak (aj _) _)) J' ⟨w5.heap.size,0,none⟩ 1 1 [.int .i64 (k:Int)] J' J' (DI w5 3 [.int .i64 (k:Int)] w5.heap.size rfl) (λu hu=>by rw [List.mem_singleton.1 hu];rfl) J J RC ?_;intro v7 w7 nK Ua nQ;rw [show 0+jj+1 = jj+1 by omega] at nK;obtain ⟨g9,p9,hv7,hgb9,hgp9,hgl9⟩:=wW nK J;subst hv7
            have bw:Below wn.heap.size wn w7:=Below.grown (ak bu _) Ua RC (λq hq=>(bc.lt q hq).1))
         | (at_builtin
            refine xW IP J' _ _ J' w7 wn.heap.size _ _ _ nK J' A0 0 (cap - jj) ((([]:List Nat)).map (λj:Nat=>Value.int .i64 (j:Int))) J' J' (λq u hu=>asg.out.2 q u hu _) (λu hu=>by obtain ⟨z0,_,rfl⟩:=List.mem_map.1 hu;rfl) J J ni ?_;intro v8 w8 Le da mQ;rw [show jj+1+0 = is.length+1 by omega] at Le;obtain ⟨g8,p8,hv8,aJs,aJt,aJu⟩:=wW Le J;subst hv8
            have d8:Below wn.heap.size wn w8:=Below.grown bw da bw.size (λq hq=>(nK.lt q hq).1)))
        have PC:Below wo.heap.size wo w8:=ah kd.out d8;refine ⟨⟨k+1,s1++k :: (([]:List Nat)),g8,p8,J,by rw [Il.out];omega,N',by rw [Il.out],I (λz hz=>?_),I ?_,?_,?_,ah fv.out PC⟩,by simp [intOf];omega⟩
        ·exact LS
        ·exact Mb
        ·exact NC
        ·exact (PC.cell (p:=⟨w.heap.size,1,none⟩) N6).trans Xz.out
      | cons z s2 =>
        have fI:jj < is.length:=(by have e1:=congrArg List.length HE.out;have e3:=HJ.out;rw [List.length_append,List.length_cons] at e1;omega);have sF:decide ((jj:Int) < (is.length:Int)) = true:=(by simp;omega);have yK:wr.cell? ⟨g,jj,none⟩ = some (.int .i64 (z:Int)):=MC.out _ _ _ (nA.out jj _ Uj) hgo;have td:z < x.M.length:=HIS.out z C8;obtain ⟨r,hrk,hro,hrn,cH⟩:=HPC.out z td;have XC:wo.cell? ⟨b,o+z * 9,none⟩ = some (.string r.name):=r' fv.out (cH 0 _ rfl) hbs;have qr1:wo.cell? ⟨b,o+z * 9+1,none⟩ = some (.slice r.la r.ln r.lc):=r' fv.out (cH 1 _ rfl) hbs;have qr2:wo.cell? ⟨b,o+z * 9+2,none⟩ = some (.int .i64 r.aq):=r' fv.out (cH 2 _ rfl) hbs;have qr3:wo.cell? ⟨b,o+z * 9+3,none⟩ = some (.int .i64 r.mem):=r' fv.out (cH 3 _ rfl) hbs;have qr4:wo.cell? ⟨b,o+z * 9+4,none⟩ = some (.int .i64 r.av):=r' fv.out (cH 4 _ rfl) hbs;have qr5:wo.cell? ⟨b,o+z * 9+5,none⟩ = some (.slice r.na r.nn r.nc):=r' fv.out (cH 5 _ rfl) hbs;have qr6:wo.cell? ⟨b,o+z * 9+6,none⟩ = some (.slice r.ta r.tn r.tc):=r' fv.out (cH 6 _ rfl) hbs;have qr7:wo.cell? ⟨b,o+z * 9+7,none⟩ = some (.string r.on):=r' fv.out (cH 7 _ rfl) hbs;have qr8:wo.cell? ⟨b,o+z * 9+8,none⟩ = some (.int .i64 r.seq):=r' fv.out (cH 8 _ rfl) hbs;replace XC:=MC.out _ _ _ XC fq;replace qr1:=MC.out _ _ _ qr1 fq;replace qr2:=MC.out _ _ _ qr2 fq;replace qr3:=MC.out _ _ _ qr3 fq;replace qr4:=MC.out _ _ _ qr4 fq;replace qr5:=MC.out _ _ _ qr5 fq;replace qr6:=MC.out _ _ _ qr6 fq;replace qr7:=MC.out _ _ _ qr7 fq;replace qr8:=MC.out _ _ _ qr8 fq;have rU:=I (show rT x.M z = nB r by rw [SI td,hrk]);clear cH hrk hro;cases hL:kS sP (nB y) (nB r) with
        | false =>
          have HL:=I hL;clear hL;go_wp2_with fail
          refine aF wr U' U' (aj _) ?_
          repeat ((first | refine aG J' ?_ | refine aH _ J' LF ?_);simp only [Act.put,pz])
          refine aN ?_;intro wn hn;replace hn:=hn.out;go_wp2;refine ⟨⟨s1++[z],s2,jj+1,I C8,N',I ZH,I (λz' hz=>?_),ah bC hn⟩,by simp [intOf];omega⟩;rcases List.mem_append.1 hz with hz | hz
          ·exact HN.out z' hz
          ·rw [List.mem_singleton.1 hz,rU.out];exact HL.out
        | true =>
          have HL:=I hL;clear hL;have Il:=I (show (s1++k :: z :: s2).length = is.length+1 by have e1:=congrArg List.length HE.out;rw [List.length_append,List.length_cons] at e1;rw [List.length_append,List.length_cons,List.length_cons];omega);have asT:=I (show (z :: s2).map (rT x.M) = []∨∃z' s',(z :: s2).map (rT x.M) = z' :: s'/\kS sP (nB y) z' = true from .inr ⟨_,_,rfl,by rw [rU.out];exact HL.out⟩);go_wp2_with fail
          refine aF wr U' U' (aj _) ?_
          repeat ((first | refine aG J' ?_ | refine aH _ J' LF ?_);simp only [Act.put,pz])
          refine aN ?_;intro wn hn;replace hn:=hn.out;have bs:Below wo.heap.size wo wn:=ah bC hn;have RJ:=mG jD.out bs;obtain ⟨_,fy,apy,V4⟩:=IE RJ
          have eK:=I (show ∀q u,(s1.map (λj:Nat=>Value.int .i64 (j:Int)))[q]? = some u->wn.cell? ⟨g,0+q,none⟩ = some u from λq u hu=>by
           rw [Nat.zero_add];refine V4 q u ?_
           rw [HE.out,List.map_append,List.getElem?_append_left (List.getElem?_eq_some_iff.1 hu).1];exact hu)
          have Gn:=I (show ∀q u,((z :: s2).map (λj:Nat=>Value.int .i64 (j:Int)))[q]? = some u->wn.cell? ⟨g,jj+q,none⟩ = some u from λq u hu=>by
           refine V4 (jj+q) u ?_
           rw [HE.out,List.map_append,List.getElem?_append_right EH,List.length_map,HJ.out,Nat.add_sub_cancel_left];exact hu)
          have cA:jj+(z :: s2).length = is.length:=(by have e1:=congrArg List.length HE.out;have e3:=HJ.out;rw [List.length_append] at e1;omega);have bz:is.length - jj = (z :: s2).length:=J;have pp:=I bz;have rp:jj<=is.length:=J;have pv:jj<=cap:=J;have kd:=I bs;have BE:is.length<=1048576:=J;clear RJ V4 cA bs bz
          go_wp2_with (first
           | (at_builtin
              refine xW IP J' _ _ J' (wn.alloc (.cells #[] 3)) wn.heap.size _ 0 [] (D9 wn 3 1 wn.heap.size rfl) J' ⟨g,0,none⟩ jj cap (s1.map (λj:Nat=>Value.int .i64 (j:Int))) J' AD (λq u hu=>by rw [Addr.add_lit];exact (World.cell?_of_block (heap_alloc_old _ _ fy)).trans (eK.out q u hu)) (λu hu=>by obtain ⟨z0,_,rfl⟩:=List.mem_map.1 hu;rfl) J J S' ?_;intro v5 w5 bc cg gd;rw [List.nil_append] at bc
              have bu:Below wn.heap.size wn w5:=Below.grown (ak (aj _) _) cg S' (λq hq=>by simp [Value.ownBlock] at hq;omega))
           | (at_builtin
              refine xW IP J' _ _ J' (w5.alloc (.cells #[.int .i64 (k:Int)] 3)) wn.heap.size v5 _ _ (mG bc (ak (aj _) _)) J' ⟨w5.heap.size,0,none⟩ 1 1 [.int .i64 (k:Int)] J' J' (DI w5 3 [.int .i64 (k:Int)] w5.heap.size rfl) (λu hu=>by rw [List.mem_singleton.1 hu];rfl) J J RC ?_;intro v7 w7 nK Ua nQ;rw [show 0+jj+1 = jj+1 by omega] at nK;obtain ⟨g9,p9,hv7,hgb9,hgp9,hgl9⟩:=wW nK J;subst hv7
              have bw:Below wn.heap.size wn w7:=Below.grown (ak bu _) Ua RC (λq hq=>(bc.lt q hq).1))
           | (at_builtin
              refine xW IP J' _ _ J' w7 wn.heap.size _ _ _ nK J' ⟨g,jj,none⟩ (is.length - jj) (cap - jj) ((z :: s2).map (λj:Nat=>Value.int .i64 (j:Int))) J' RE (λq u hu=>by rw [Addr.add_lit];exact (bw.cell (p:=⟨g,jj+q,none⟩) fy).trans (Gn.out q u hu)) (λu hu=>by obtain ⟨z0,_,rfl⟩:=List.mem_map.1 hu;rfl) J J ni ?_;intro v8 w8 Le da mQ;rw [show jj+1+(is.length - jj) = is.length+1 by omega] at Le;obtain ⟨g8,p8,hv8,aJs,aJt,aJu⟩:=wW Le J;subst hv8
              have d8:Below wn.heap.size wn w8:=Below.grown bw da bw.size (λq hq=>(nK.lt q hq).1)))
          have PC:Below wo.heap.size wo w8:=ah kd.out d8;refine ⟨⟨k+1,s1++k :: (z :: s2),g8,p8,J,by rw [Il.out];omega,N',by rw [Il.out],I (λz hz=>?_),I ?_,?_,?_,ah fv.out PC⟩,by simp [intOf];omega⟩
          ·exact LS
          ·exact Mb
          ·exact NC
          ·exact (PC.cell (p:=⟨w.heap.size,1,none⟩) N6).trans Xz.out
  ·have bz:k = x.M.length:=J;subst bz;have FR:=HMAP.out;rw [List.take_length] at FR;have hws:(is.map λz=>(rT x.M z).1) = GI x.M:=by
    unfold GI;rw [<- FR,List.map_map];rfl
   have XD:=I hws;clear FR hws HMAP;obtain ⟨wo,hwo⟩:∃wo,wo = wr:=⟨_,rfl⟩;subst hwo;obtain ⟨_,hgo,hgc,ahU⟩:=IE bB;have nA:=I ahU;clear ahU bB;have BE:is.length<=1048576:=J;go_wp2_with fail
   go_loopw [7,8] (λv i wr=>∃j:Nat,j<=is.length/\i = .int .i64 (j:Int)/\wr.ownsRow wo.heap.size 9 1 v j (((is.take j).map λz=>(rT x.M z).1).map Value.string)/\Below wo.heap.size wo wr) (λ_ i _=>is.length - (intOf i).toNat)
   case atStart=>exact ⟨0,Nat.zero_le _,rfl,D9 wo 9 1 wo.heap.size rfl,ak (aj _) _⟩
   case round =>
    obtain ⟨j,hj,rfl,bB,ij⟩:=hrel;by_cases sR:j < is.length
    ·obtain ⟨z,hz⟩:∃z,is[j] = z:=⟨_,rfl⟩;have td:z < x.M.length:=HIS.out z (by rw [<- hz];exact List.getElem_mem ..);have yK:wo.cell? ⟨g,j,none⟩ = some (.int .i64 (z:Int)):=nA.out j _ (by rw [List.getElem?_map,List.getElem?_eq_getElem sR,hz];rfl);obtain ⟨b,o,rfl,hbs,hpc⟩:=Xy dM J;obtain ⟨r,hrk,hro,hrn,cH⟩:=hpc z td;have XC:wo.cell? ⟨b,o+z * 9,none⟩ = some (.string r.name):=r' aM (cH 0 _ rfl) hbs;have fq:b < wo.heap.size:=Nat.lt_of_lt_of_le hbs aM.size;have tz:(is.take (j+1)).map (λz=>(rT x.M z).1) = (is.take j).map (λz=>(rT x.M z).1)++[r.name]:=by
      rw [List.take_succ_eq_append_getElem sR,hz,List.map_append,List.map_cons,List.map_nil,SI td,<- hrk];rfl
     have XE:=I tz;clear tz cH hpc hrk hro hz;go_wp2_with fail
     refine zU wo 14 U' U' ij ?_;have bo:=aA ij;refine aX 0 _ J' U' H' bo W' ?_;try simp only [Act.put,pz]
     refine aX 1 _ J' U' H' bo W' ?_;try simp only [Act.put,pz]
     refine aX 2 _ J' U' H' bo W' ?_;try simp only [Act.put,pz]
     refine aX 3 _ J' U' H' bo W' ?_;try simp only [Act.put,pz]
     refine aX 4 _ J' U' H' bo W' ?_;try simp only [Act.put,pz]
     refine aX 5 _ J' U' H' bo W' ?_;try simp only [Act.put,pz]
     refine aX 6 _ J' U' H' bo W' ?_;try simp only [Act.put,pz]
     refine aX 7 _ J' U' H' bo W' ?_;try simp only [Act.put,pz]
     refine aX 8 _ J' U' H' bo W' ?_;try simp only [Act.put,pz]
     refine aX 9 _ J' U' H' bo W' ?_;try simp only [Act.put,pz]
     refine aX 10 _ J' U' H' bo W' ?_;try simp only [Act.put,pz]
     refine bP 11 J' U' J' (λK hK=>?_);go_simp;refine hK _ _ (ak bo (.cells #[.string r.name] 9)) ?_;try simp only [Act.put,pz]
     clear hK K;refine bP 12 J' U' J' (λK hK=>?_);refine qQ ajn _ _ J' (wr.drew.alloc (.cells #[.string r.name] 9)) wo.heap.size _ j _ (mG bB (ak (aA (aj _)) _)) J' ⟨wr.heap.size,0,none⟩ 1 1 [.string r.name] J' J' (DI wr.drew 9 [.string r.name] wr.heap.size rfl) (λu hu=>by rw [List.mem_singleton.1 hu];rfl) J J (by have:=ij.size;simp;omega) ?_;intro v5 w5 bc cg gd;have bu:Below wo.heap.size wo w5:=Below.grown (ak bo _) cg (by have:=ij.size;simp;omega) (λq hq=>(bB.lt q hq).1);refine hK _ _ bu ?_;try simp only [Act.put,pz]
     clear hK K;refine bP 13 J' U' J' (λK hK=>?_);go_simp;refine hK _ _ bu ?_;try simp only [Act.put,pz]
     clear hK K;refine nR U' ?_;go_wp2;exact ⟨⟨j+1,J,N',by rw [XE.out,List.map_append];exact bc,bu⟩,by simp [intOf];omega⟩
    ·have jH:j = is.length:=J;subst jH;rw [List.take_length,XD.out] at bB
     obtain ⟨A3,c3,G3,mK,hO3⟩:=adz bB (by rw [<- XD.out,List.length_map]) (B':=w.heap.size) aM.size (λy hy=>by
      rw [<- XD.out] at hy;obtain ⟨z,hz,rfl⟩:=List.mem_map.1 hy;have td:=HIS.out z hz;obtain ⟨_,_,_,_,hpc⟩:=Xy dM J;obtain ⟨r,hrk,_,hrn,_⟩:=hpc z td
      rw [SI td,<- hrk];exact hrn)
     have HV3:=I mK;have gN:=I hO3;clear mK hO3 bB;go_wp2;go_ret
     exact ⟨A3,c3,G3,congrArg _ HV3.out,gN.out,aM.trans (ij.mono aM.size)⟩
theorem kj (xs:List ba) (x:ba) (A:Option Addr) (c i vb B:Nat) (F G:List Nat) (cs:List Value) (tv:TypeId) (w:World) (h:ai w B (Roomy.mk xs 38) [.slice A xs.length c] F) (hx:ai w B x cs G) (hd:∀y∈F,y∉G) (hB:B<=w.heap.size) (hn:xs.length<=1048576) (hi:i<=xs.length)
 (hv:w.heap[vb]? = some (.cells cs.toArray tv (0,0))) (Ye:vb∉F) :
 Calls Tryz.prog 41 #[.slice A xs.length c,.int .i64 i,.slice (some ⟨vb,0,none⟩) 1 1] w λe w'=>∃A' c' F',e = .returned (.slice A' (xs.length+1) c')/\ai w' B (eV i x xs) [.slice A' (xs.length+1) c'] F'/\(∀y∈F',y∈F∨y∈G∨w.heap.size<=y)/\nN F w w':=by
 have cR:cs.length = 6:=ax.len hx.rd;have h1:∀u∈cs,u.oneCell' = true:=ax.one hx.rd;have hS:ax.size ba = 6:=rfl;obtain ⟨ds,G0,bB,X5,bI,hG0⟩:=h.lm;have zl:vb < w.heap.size:=(Array.getElem?_eq_some_iff.1 hv).1;have Dk:∀g,(Value.slice A xs.length c).ownBlock = some g->g∈F:=λg hg=>by
  exact LI
 have ke:∀u∈ds,u.oneCell' = true:=X5.rd.one;obtain ⟨F',hOI,hF'⟩:=X5.ins hx (λy hy eI=>hd y (hG0 y hy) eI) i hi;rw [hS] at hOI bB;have fin:∀(v':Value) (w':World),w'.ownsRow B 38 6 v' (xs.length+1) (ds.take (i * 6)++(cs++ds.drop (i * 6)))->w.grownBy w' (Value.slice A xs.length c).ownBlock->(v'.ownBlock = (Value.slice A xs.length c).ownBlock∨v'.ownBlock = some w.heap.size)->∃A' c' F2,v' = .slice A' (xs.length+1) c'/\ai w' B (eV i x xs) [.slice A' (xs.length+1) c'] F2/\(∀y∈F2,y∈F∨y∈G∨w.heap.size<=y)/\nN F w w':=λv' w' hr hg cF=>by
  exact Lb
 rcases bB with ⟨cM,⟨hA,hn0⟩ | ⟨g,cap,cj,hA,zj,hgc,hnc,hcm,dC,hct⟩⟩
 ·simp only [Value.slice.injEq] at hA;obtain ⟨rfl,hl0,rfl⟩:=hA;have gw:i = 0:=by omega
  subst gw;have lR:ds = []:=List.eq_nil_of_length_eq_zero J;subst lR;rw [hl0] at fin |-;refine (oX w B vb cs hB tv cR h1 hv).mono ?_;exact Mq
 ·simp only [Value.slice.injEq,true_and] at hA;obtain ⟨rfl,rfl⟩:=hA;have GF:w.ownsRow B 38 6 (.slice (some ⟨g,0,none⟩) xs.length c) xs.length ds:=⟨cM,.inr ⟨g,c,cj,rfl,zj,hgc,hnc,hcm,dC,hct⟩⟩;have wu:c<=9223372036854775807:=by unfold maxLen at hcm;omega
  have Yf:=Dk g rfl;by_cases mv:i < xs.length
  ·by_cases ja:xs.length+1<=c
   ·refine (mu w B g xs.length c i vb ds cs hB GF hn wu mv ja (λe=>Ye (e ▸ Yf)) ke tv cR h1 hv).mono ?_;exact Mp
   ·refine (nx w B g xs.length c i vb ds cs hB GF hn mv J zl ke tv cR h1 hv).mono ?_;exact Mr
  ·have Yg:i = xs.length:=J;subst Yg;refine (oY w B g xs.length c vb ds cs hB GF hn wu tv cR h1 hv).mono ?_;exact Mc
theorem ib (xs:List ag) (x:ag) (A:Option Addr) (c i vb B:Nat) (F G:List Nat) (cs:List Value) (tv:TypeId) (w:World) (h:ai w B (Roomy.mk xs 47) [.slice A xs.length c] F) (hx:ai w B x cs G) (hd:∀y∈F,y∉G) (hB:B<=w.heap.size) (hn:xs.length<=1048576) (hi:i<=xs.length)
 (hv:w.heap[vb]? = some (.cells cs.toArray tv (0,0))) (Ye:vb∉F) :
 Calls Tryz.prog 39 #[.slice A xs.length c,.int .i64 i,.slice (some ⟨vb,0,none⟩) 1 1] w λe w'=>∃A' c' F',e = .returned (.slice A' (xs.length+1) c')/\ai w' B (eV i x xs) [.slice A' (xs.length+1) c'] F'/\(∀y∈F',y∈F∨y∈G∨w.heap.size<=y)/\nN F w w':=by
 have cR:cs.length = 9:=ax.len hx.rd;have h1:∀u∈cs,u.oneCell' = true:=ax.one hx.rd;have hS:ax.size ag = 9:=rfl;obtain ⟨ds,G0,bB,X5,bI,hG0⟩:=h.lm;have zl:vb < w.heap.size:=(Array.getElem?_eq_some_iff.1 hv).1;have Dk:∀g,(Value.slice A xs.length c).ownBlock = some g->g∈F:=λg hg=>by
  exact LI
 have ke:∀u∈ds,u.oneCell' = true:=X5.rd.one;obtain ⟨F',hOI,hF'⟩:=X5.ins hx (λy hy eI=>hd y (hG0 y hy) eI) i hi;rw [hS] at hOI bB;have fin:∀(v':Value) (w':World),w'.ownsRow B 47 9 v' (xs.length+1) (ds.take (i * 9)++(cs++ds.drop (i * 9)))->w.grownBy w' (Value.slice A xs.length c).ownBlock->(v'.ownBlock = (Value.slice A xs.length c).ownBlock∨v'.ownBlock = some w.heap.size)->∃A' c' F2,v' = .slice A' (xs.length+1) c'/\ai w' B (eV i x xs) [.slice A' (xs.length+1) c'] F2/\(∀y∈F2,y∈F∨y∈G∨w.heap.size<=y)/\nN F w w':=λv' w' hr hg cF=>by
  exact Lb
 rcases bB with ⟨cM,⟨hA,hn0⟩ | ⟨g,cap,cj,hA,zj,hgc,hnc,hcm,dC,hct⟩⟩
 ·simp only [Value.slice.injEq] at hA;obtain ⟨rfl,hl0,rfl⟩:=hA;have gw:i = 0:=by omega
  subst gw;have lR:ds = []:=List.eq_nil_of_length_eq_zero J;subst lR;rw [hl0] at fin |-;refine (mz w B vb cs hB tv cR h1 hv).mono ?_;exact Mq
 ·simp only [Value.slice.injEq,true_and] at hA;obtain ⟨rfl,rfl⟩:=hA;have GF:w.ownsRow B 47 9 (.slice (some ⟨g,0,none⟩) xs.length c) xs.length ds:=⟨cM,.inr ⟨g,c,cj,rfl,zj,hgc,hnc,hcm,dC,hct⟩⟩;have wu:c<=9223372036854775807:=by unfold maxLen at hcm;omega
  have Yf:=Dk g rfl;by_cases mv:i < xs.length
  ·by_cases ja:xs.length+1<=c
   ·refine (kC w B g xs.length c i vb ds cs hB GF hn wu mv ja (λe=>Ye (e ▸ Yf)) ke tv cR h1 hv).mono ?_;exact Mp
   ·refine (lT w B g xs.length c i vb ds cs hB GF hn mv J zl ke tv cR h1 hv).mono ?_;exact Mr
  ·have Yg:i = xs.length:=J;subst Yg;refine (mA w B g xs.length c vb ds cs hB GF hn wu tv cR h1 hv).mono ?_;exact Mc
section
def j5 (cv:ao->ao->Int) (W0:World) (b:Nat):Prop:=∀(x y:ao) (w:World),nN [b] W0 w ->
 Calls Tryz.prog 116 #[.agg #[.string x.key,.string x.value],.agg #[.string y.key,.string y.value]] w λe w'=>e = .returned (.int .i64 (cv x y))/\Below w.heap.size w w'
theorem gD (W0 w:World) (b o c N:Nat) (P X Q:List ao) (a bb:Nat) (cv:ao->ao->Int) (h:jJ cE 2 W0 w b o (P++(X++Q))) (hN:(P++(X++Q)).length<=N) (BI:N<=1048576) (ha:Hid (P.length = a)) (hm:Hid (a+X.length = bb)) (W:dz (kS cv)) (hc:j5 cv W0 b) :
 Calls Tryz.prog 175 #[.slice (some ⟨b,o,none⟩) N c,.int .i64 a,.int .i64 bb,.func (.func 116) #[] #[]] w λe w'=>e = .returned (.tuple #[])/\jJ cE 2 W0 w' b o (P++(bd (kS cv) [] X++Q)):=by
 have bE:bb<=N:=by have e1:=ha.out;have e2:=hm.out;simp only [List.length_append] at hN;omega
 have eW:a<=bb:=by have e2:=hm.out;omega
 have HC:=I hc;have HW:=I W;clear hc hN W;go_enter Tryz.func175,Tryz.ntmps175;go_wp2_with fail
 by_cases hX:X = []
 ·subst hX;have Ch:a = bb:=by simpa using hm.out
  subst Ch;go_loopw [8] (λi wr=>i = .int .i64 ((a+1:Nat):Int)/\wr = w) (λ_ _=>0)
  case atStart=>exact ⟨N',rfl⟩
  case round =>
   obtain ⟨rfl,rfl⟩:=hrel;go_wp2;go_end0
   exact ⟨rfl,h⟩
 have hX1:1<=X.length:=by cases X with | nil=>exact absurd rfl hX | cons x X=>simp
 clear hX;go_loopw [8] (λi wr=>∃k:Nat,1<=k/\k<=X.length/\i = .int .i64 ((a+k:Nat):Int)/\jJ cE 2 W0 wr b o (P++(bd (kS cv) [] (X.take k)++(X.drop k++Q)))) (λi _=>bb - (intOf i).toNat)
 case atStart =>
  refine ⟨1,J,hX1,N',?_⟩;have e:bd (kS cv) [] (X.take 1)++(X.drop 1++Q) = X++Q:=by
   cases X with
   | nil=>simp at hX1
   | cons x X=>rfl
  rw [e];exact h
 case round =>
  obtain ⟨k,B6,hk,rfl,hS⟩:=hrel;by_cases ap:k < X.length
  ·obtain ⟨wo,hwo⟩:∃wo,wo = wr:=⟨_,rfl⟩;subst hwo;have sR:a+k < bb:=(by have e2:=hm.out;omega);obtain ⟨y,hy⟩:∃y,X[k] = y:=⟨_,rfl⟩;have ki:X.drop k = y :: X.drop (k+1):=(by rw [<- hy];exact (List.getElem_cons_drop ..).symm);have eh:bd (kS cv) [] (X.take (k+1)) = OM (kS cv) y (bd (kS cv) [] (X.take k)):=(by rw [List.take_succ_eq_append_getElem ap,hy,V3]);have XR:b4 (kS cv) (bd (kS cv) [] (X.take k)):=yc HW.out _ _ List.Pairwise.nil;have nu:(bd (kS cv) [] (X.take k)).length = k:=(by rw [rD,List.length_take];simp;omega);rw [ki] at hS;have Jf:=I eh;have LJ:=I XR;clear ki eh XR hy;generalize hSS:bd (kS cv) [] (X.take k) = SS at *;generalize qz:X.drop (k+1)++Q = RR at *;have HSS:=I hSS;have ik:=I qz;have cW:=I nu;clear hSS qz nu;go_wp2_with fail
   go_loopw [9] (λj wr=>∃(s1 s2:List ao) (jj:Nat),Hid (SS = s1++s2)/\j = .int .i64 (jj:Int)/\Hid (a+s1.length = jj)/\Hid (∀x∈s2,kS cv y x = true)/\jJ cE 2 W0 wr b o (P++(s1++(y :: (s2++RR))))) (λj _=>(intOf j).toNat)
   case atStart =>refine ⟨SS,[],a+k,I S',rfl,I (by rw [cW.out]),I S',?_⟩;simpa [ik.out] using hS
   case round =>
    obtain ⟨s1,s2,jj,HE,rfl,HJ,HY,bS⟩:=hrel;have HU:=I bS.ce;have aM:b < wr.heap.size:=bS.plain.lt;have Je:jj < bb:=(by have e1:=HJ.out;have e2:=congrArg List.length HE.out;have e3:=cW.out;rw [List.length_append] at e2;omega);rcases List.eq_nil_or_concat s1 with rfl | ⟨s',x,rfl⟩
    ·have hja:jj = a:=(by simpa using HJ.out.symm);subst hja
     have HN:=I (show OM (kS cv) y SS = y :: s2 by
      have e1:SS = s2:=HE.out;rw [e1]
      exact alh HW.out (y:=y) (s1:=[]) (s2:=s2) (by rw [List.nil_append,<- e1];exact LJ.out) HY.out (.inl rfl))
     have HS:=I bS;clear bS;go_wp2_with fail
     refine aF wr U' U' (aj _) ?_
     repeat (first
      | (apply aG
         case hw=>rfl
         simp only [Act.put,pz])
      | (apply aH
         case hw=>rfl
         case h =>
          intro wq hq;have et:=(aB hq).1;have lJ:=(aB hq).2;go_simp
          first
           | exact ⟨hq,rfl⟩
           | (refine (HC.out y y _ (HU.out.trans (nN.lq _ hq))).mono ?_;rintro e w2 ⟨rfl,am⟩;exact ⟨rfl,aI hq am⟩)
           | (simp only [↓IntWalk.iteOmega];exact ⟨hq,rfl⟩)
         simp only [Act.put,pz]))
     refine aN ?_;intro wn hn;replace hn:=hn.out;go_wp2;refine ⟨⟨k+1,J,J,N',?_⟩,by simp [intOf];omega⟩;rw [Jf.out,HN.out,ik.out];exact (HS.out).ext hn
    ·obtain ⟨jk,fI⟩:∃jk,jj = jk+1:=⟨jj - 1,by have:=HJ.out;simp at this;omega⟩;subst fI;have SP:P.length+s'.length = jk:=(by have e1:=HJ.out;have e2:=ha.out;simp at e1;omega);have jH:a<=jk:=(by have:=ha.out;omega);have cG:jJ cE 2 W0 wr b o (P++(s'++(x :: y :: (s2++RR)))):=(by simpa only [List.concat_eq_append,List.append_assoc,List.cons_append,List.nil_append] using bS);have g1:=wY P s' (s2++RR) x y SP;have g2:=wZ P s' (s2++RR) x y SP;have Ao:wr.cell? ⟨b,o+jk * 2,none⟩ = some (.string x.key):=cG.tab _ x g1 0 _ rfl;have Aw:wr.cell? ⟨b,o+jk * 2+1,none⟩ = some (.string x.value):=cG.tab _ x g1 1 _ rfl;have tQ:wr.cell? ⟨b,o+(jk+1) * 2,none⟩ = some (.string y.key):=cG.tab _ y g2 0 _ rfl;have tR:wr.cell? ⟨b,o+(jk+1) * 2+1,none⟩ = some (.string y.value):=cG.tab _ y g2 1 _ rfl;have qf:=cG.plain.frozen;have HP:=I SP;have HS:=I cG;clear bS cG g1 g2 SP;have hdj:decide ((a:Int) < (jk:Int)+1) = true:=(by simp;omega);have rE:IntKind.i64.wrap (jk:Int) = jk:=IntWalk.i64_in _ J;cases nP:decide (cv y x < 0) with
     | true =>
       go_wp2_with fail
       refine aF wr U' U' (aj _) ?_
       repeat ((first | refine aG J' ?_ | refine aH _ J' x4 ?_);simp only [Act.put,pz])
       refine aN ?_;intro wn hn;replace hn:=hn.out;go_wp2_with fail
       clear Ao Aw tQ tR qf HU aM;have Ci:=HS.out.ext hn;have Ao:wn.cell? ⟨b,o+jk * 2,none⟩ = some (.string x.key):=Ci.tab _ x (wY P s' (s2++RR) x y HP.out) 0 _ rfl;have Aw:wn.cell? ⟨b,o+jk * 2+1,none⟩ = some (.string x.value):=Ci.tab _ x (wY P s' (s2++RR) x y HP.out) 1 _ rfl;have tQ:wn.cell? ⟨b,o+(jk+1) * 2,none⟩ = some (.string y.key):=Ci.tab _ y (wZ P s' (s2++RR) x y HP.out) 0 _ rfl;have tR:wn.cell? ⟨b,o+(jk+1) * 2+1,none⟩ = some (.string y.value):=Ci.tab _ y (wZ P s' (s2++RR) x y HP.out) 1 _ rfl;have qf:=Ci.plain.frozen;have ql:=Ci.plain.lt;have HSn:=I Ci;have HCV:=I nP;clear Ci nP;go_region
       go_wp2;have h2:=HSn.out.swap_ (λ_=>rfl) (wZ P s' (s2++RR) x y HP.out) (wY P s' (s2++RR) x y HP.out);rw [V7 P s' (s2++RR) x y HP.out] at h2;refine ⟨⟨s',x :: s2,jk,I C8,rfl,I (by rw [<- HP.out,ha.out]),I ?_,jJ.ext h2 (aA (aj _))⟩,by simp [intOf]⟩;intro z hz;rcases List.mem_cons.1 hz with rfl | hz
       ·exact HCV.out
       ·exact HY.out z hz
     | false =>
       go_wp2_with fail
       refine aF wr U' U' (aj _) ?_
       repeat ((first | refine aG J' ?_ | refine aH _ J' x4 ?_);simp only [Act.put,pz])
       refine aN ?_;intro wn hn;replace hn:=hn.out;go_wp2;have BI:OM (kS cv) y SS = (s'++[x])++y :: s2:=by have e1:SS = (s'++[x])++s2:=(by rw [HE.out];simp);rw [e1];exact alh HW.out (by rw [<- e1];exact LJ.out) HY.out (.inr ⟨s',x,rfl,nP⟩)
       refine ⟨⟨k+1,J,J,N',?_⟩,by simp [intOf];omega⟩;rw [Jf.out,BI,ik.out];have h2:=HS.out.ext hn;simpa only [List.append_assoc,List.cons_append,List.nil_append] using h2
  ·have bz:k = X.length:=J;subst bz;rw [hm.out,List.take_length,List.drop_length,List.nil_append] at *;go_wp2;go_end0
   exact ⟨rfl,hS⟩
end
section
theorem l5 (W0 w:World) (b o c N:Nat) (P R Q:List ao) (x:ao) (a bb:Nat) (cv:ao->ao->Int) (h:jJ cE 2 W0 w b o (P++(x :: (R++Q)))) (hN:(P++(x :: (R++Q))).length<=N) (BI:N<=1048576) (ha:Hid (P.length = a)) (hm:Hid (a+1+R.length = bb)) (W:dz (kS cv)) (hR:b4 (kS cv) R) (hc:j5 cv W0 b) :
 Calls Tryz.prog 176 #[.slice (some ⟨b,o,none⟩) N c,.int .i64 a,.int .i64 ((a+1:Nat):Int),.int .i64 bb,.func (.func 116) #[] #[]] w λe w'=>e = .returned (.tuple #[])/\jJ cE 2 W0 w' b o (P++(fO (kS cv) [x] R++Q)):=by
 have bE:bb<=N:=by have e1:=ha.out;have e2:=hm.out;simp only [List.length_append,List.length_cons] at hN;omega
 have eW:a+1<=bb:=by have e2:=hm.out;omega
 have HC:=I hc;have HW:=I W;have HR:=I hR;clear hc hN W hR;go_enter Tryz.func176,Tryz.ntmps176;go_wp2_with fail
 go_loopw [10,11] (λi j wr=>∃u v i0 j0:Nat,u<=v/\v<=R.length/\i = .int .i64 (i0:Int)/\j = .int .i64 (j0:Int)/\Hid (a+1+u = i0)/\Hid (a+1+v = j0)/\Hid (∀y∈R.take u,kS cv y x = true)/\Hid (∀y∈R.drop v,kS cv y x = false)/\jJ cE 2 W0 wr b o (P++(x :: (R++Q)))) (λi j _=>(intOf j - intOf i).toNat)
 case atStart =>have e2:=hm.out;exact ⟨0,R.length,a+1,bb,J,J,rfl,rfl,I rfl,hm,I S',I S',h⟩
 case round =>
  obtain ⟨u,v,i0,j0,huv,hv,rfl,rfl,HI,HJ,HY,HN,hS⟩:=hrel;by_cases ap:u < v
  ·have mW:i0 < j0:=(by have:=HI.out;have:=HJ.out;omega);have Je:j0<=bb:=(by have:=HJ.out;have:=hm.out;omega);have QV:a+1<=i0:=(by have:=HI.out;omega);obtain ⟨t,ht⟩:∃t:Nat,(i0+j0) / 2 = t:=⟨_,rfl⟩;have Zw:i0<=t:=J;have Zx:t < j0:=J;obtain ⟨k,hk⟩:∃k,a+1+k = t:=⟨t - (a+1),J⟩;have Cu:k < R.length:=(by have:=hm.out;omega);have Zy:u<=k:=(by have:=HI.out;omega);have Hj:k < v:=(by have:=HJ.out;omega);have bO:R[k]? = some R[k]:=List.getElem?_eq_getElem Cu;obtain ⟨y,hy⟩:∃y,R[k] = y:=⟨_,rfl⟩;have MV:(P++(x :: (R++Q)))[t]? = some y:=by
    rw [List.getElem?_append_right Hk,show t - P.length = k+1 by have:=ha.out;omega,List.getElem?_cons_succ,List.getElem?_append_left Cu,bO,hy]
   have tP:(P++(x :: (R++Q)))[a]? = some x:=by rw [List.getElem?_append_right Hk,show a - P.length = 0 by have:=ha.out;omega];rfl
   have Ao:wr.cell? ⟨b,o+a * 2,none⟩ = some (.string x.key):=hS.tab _ x tP 0 _ rfl;have Aw:wr.cell? ⟨b,o+a * 2+1,none⟩ = some (.string x.value):=hS.tab _ x tP 1 _ rfl;have tQ:wr.cell? ⟨b,o+t * 2,none⟩ = some (.string y.key):=hS.tab _ y MV 0 _ rfl;have tR:wr.cell? ⟨b,o+t * 2+1,none⟩ = some (.string y.value):=hS.tab _ y MV 1 _ rfl;have HU:=I hS.ce;have aM:b < wr.heap.size:=hS.plain.lt;have HS:=I hS;have HK:=I hk;have Hm:((i0:Int)+j0) / 2 = t:=J;have DY:=I (λh:kS cv y x = true=>acA HW.out HR.out Cu (by rw [hy];exact h));have Gn:=I (λh:kS cv y x = false=>ad7 HW.out HR.out Cu (by rw [hy];exact h));clear hS bO MV tP ht hk hy;cases nP:decide (cv y x < 0) with
   | true =>exact Nf
   | false =>exact Ng
  ·have Jn:v = u:=J;subst Jn;have Jp:j0 = i0:=(by have:=HI.out;have:=HJ.out;omega);subst Jp;have HM:=I (Yw HY.out HN.out);have QV:a+1<=j0:=(by have:=HI.out;omega);have Je:j0<=bb:=(by have:=HJ.out;have:=hm.out;omega);obtain ⟨wo,hwo⟩:∃wo,wo = wr:=⟨_,rfl⟩;subst hwo;clear HJ HY HN;go_wp2_with fail
   go_loopw [13] (λk wr=>∃s k0:Nat,s<=v/\k = .int .i64 (k0:Int)/\Hid (a+s = k0)/\jJ cE 2 W0 wr b o (P++(R.take s++(x :: (R.drop s++Q))))) (λk _=>j0 - (intOf k).toNat)
   case atStart=>exact ⟨0,a,J,rfl,I rfl,by simpa using hS⟩
   case round =>
    obtain ⟨s,k0,hs,rfl,HK,bS⟩:=hrel;by_cases ap:s < v
    ·have lL:(k0:Int) < j0 - 1:=(by have:=HI.out;have:=HK.out;omega);have Rm:k0+1 < bb:=J;have hsR:s < R.length:=J;obtain ⟨y,hy⟩:∃y,R[s] = y:=⟨_,rfl⟩;have ki:R.drop s = y :: R.drop (s+1):=(by rw [<- hy];exact (List.getElem_cons_drop ..).symm);have tz:R.take (s+1) = R.take s++[y]:=(by rw [<- hy];exact List.take_succ_eq_append_getElem hsR);rw [ki] at bS;have cG:jJ cE 2 W0 wr b o (P++(R.take s++(x :: y :: (R.drop (s+1)++Q)))):=bS;have xF:P.length+(R.take s).length = k0:=(by rw [List.length_take];have:=HK.out;have:=ha.out;omega);have g1:=wY P (R.take s) (R.drop (s+1)++Q) x y xF;have g2:=wZ P (R.take s) (R.drop (s+1)++Q) x y xF;have Ao:wr.cell? ⟨b,o+k0 * 2,none⟩ = some (.string x.key):=cG.tab _ x g1 0 _ rfl;have Aw:wr.cell? ⟨b,o+k0 * 2+1,none⟩ = some (.string x.value):=cG.tab _ x g1 1 _ rfl;have tQ:wr.cell? ⟨b,o+(k0+1) * 2,none⟩ = some (.string y.key):=cG.tab _ y g2 0 _ rfl;have tR:wr.cell? ⟨b,o+(k0+1) * 2+1,none⟩ = some (.string y.value):=cG.tab _ y g2 1 _ rfl;have qf:=cG.plain.frozen;have ql:=cG.plain.lt;have h2:=cG.swap_ (λ_=>rfl) g1 g2;rw [ajh P (R.take s) (R.drop (s+1)++Q) x y xF] at h2;have H2:=I h2;have XE:=I tz;clear bS cG h2 tz ki xF g1 g2 hy;go_wp2_with fail
     go_region
     go_wp2;refine ⟨⟨s+1,k0+1,J,N',I QZ,?_⟩,by simp [intOf];omega⟩;have h3:=jJ.ext H2.out (aA (aj _));rw [XE.out,show P++((R.take s++[y])++(x :: (R.drop (s+1)++Q))) = P++(R.take s++(y :: x :: (R.drop (s+1)++Q))) by simp only [List.append_assoc,List.cons_append,List.nil_append]];exact h3
    ·have sA:s = v:=J;subst sA;have lL:(j0:Int) - 1<=k0:=(by have:=HI.out;have:=HK.out;omega);exact Mg
theorem kR (W0 w:World) (b o c N:Nat) (P L Q:List ao) (y:ao) (a m:Nat) (cv:ao->ao->Int) (h:jJ cE 2 W0 w b o (P++(L++(y :: Q)))) (hN:(P++(L++(y :: Q))).length<=N) (BI:N<=1048576) (ha:Hid (P.length = a)) (hm:Hid (a+L.length = m)) (h2:2<=L.length) (W:dz (kS cv)) (hL:b4 (kS cv) L) (hc:j5 cv W0 b) :
 Calls Tryz.prog 176 #[.slice (some ⟨b,o,none⟩) N c,.int .i64 a,.int .i64 m,.int .i64 ((m+1:Nat):Int),.func (.func 116) #[] #[]] w λe w'=>e = .returned (.tuple #[])/\jJ cE 2 W0 w' b o (P++(fO (kS cv) L [y]++Q)):=by
 have bE:m+1<=N:=by have e1:=ha.out;have e2:=hm.out;simp only [List.length_append,List.length_cons] at hN;omega
 have eW:a+2<=m:=by have e2:=hm.out;omega
 have HC:=I hc;have HW:=I W;have HL:=I hL;have Yj:((m:Int) - a == 1) = false:=by simp;omega
 clear hc hN W hL;go_enter Tryz.func176,Tryz.ntmps176;go_wp2_with fail
 go_loopw [14,15] (λi j wr=>∃u v i0 j0:Nat,u<=v/\v<=L.length/\i = .int .i64 (i0:Int)/\j = .int .i64 (j0:Int)/\Hid (a+u = i0)/\Hid (a+v = j0)/\Hid (∀x∈L.take u,kS cv y x = false)/\Hid (∀x∈L.drop v,kS cv y x = true)/\jJ cE 2 W0 wr b o (P++(L++(y :: Q)))) (λi j _=>(intOf j - intOf i).toNat)
 case atStart =>have e2:=hm.out;exact ⟨0,L.length,a,m,J,J,rfl,rfl,I rfl,hm,I S',I S',h⟩
 case round =>
  obtain ⟨u,v,i0,j0,huv,hv,rfl,rfl,HI,HJ,HY,HN,hS⟩:=hrel;by_cases ap:u < v
  ·have mW:i0 < j0:=(by have:=HI.out;have:=HJ.out;omega);have Je:j0<=m:=(by have:=HJ.out;have:=hm.out;omega);have QV:a<=i0:=(by have:=HI.out;omega);obtain ⟨t,ht⟩:∃t:Nat,(i0+j0) / 2 = t:=⟨_,rfl⟩;have Zw:i0<=t:=J;have Zx:t < j0:=J;obtain ⟨k,hk⟩:∃k,a+k = t:=⟨t - a,J⟩;have Ct:k < L.length:=(by have:=hm.out;omega);have Zy:u<=k:=(by have:=HI.out;omega);have Hj:k < v:=(by have:=HJ.out;omega);have rh:L[k]? = some L[k]:=List.getElem?_eq_getElem Ct;obtain ⟨x,hx⟩:∃x,L[k] = x:=⟨_,rfl⟩;have tP:(P++(L++(y :: Q)))[t]? = some x:=by
    rw [List.getElem?_append_right Hk,show t - P.length = k by have:=ha.out;omega,List.getElem?_append_left Ct,rh,hx]
   have MV:(P++(L++(y :: Q)))[m]? = some y:=by rw [List.getElem?_append_right Hk,List.getElem?_append_right ZA,show m - P.length - L.length = 0 by have:=ha.out;have:=hm.out;omega];rfl
   have Ao:wr.cell? ⟨b,o+t * 2,none⟩ = some (.string x.key):=hS.tab _ x tP 0 _ rfl;have Aw:wr.cell? ⟨b,o+t * 2+1,none⟩ = some (.string x.value):=hS.tab _ x tP 1 _ rfl;have tQ:wr.cell? ⟨b,o+m * 2,none⟩ = some (.string y.key):=hS.tab _ y MV 0 _ rfl;have tR:wr.cell? ⟨b,o+m * 2+1,none⟩ = some (.string y.value):=hS.tab _ y MV 1 _ rfl;have HU:=I hS.ce;have aM:b < wr.heap.size:=hS.plain.lt;have HS:=I hS;have HK:=I hk;have Hm:((i0:Int)+j0) / 2 = t:=J;have DY:=I (λh:kS cv y x = false=>acB HW.out HL.out Ct (by rw [hx];exact h));have Gn:=I (λh:kS cv y x = true=>Z9 HW.out HL.out Ct (by rw [hx];exact h));clear hS rh MV tP ht hk hx;cases nP:decide (cv y x < 0) with
   | false =>exact Nf
   | true =>exact Ng
  ·have Jn:v = u:=J;subst Jn;have Jp:j0 = i0:=(by have:=HI.out;have:=HJ.out;omega);subst Jp;have HM:=I (WR HY.out HN.out);have QV:a<=j0:=(by have:=HI.out;omega);have Je:j0<=m:=(by have:=HJ.out;have:=hm.out;omega);obtain ⟨wo,hwo⟩:∃wo,wo = wr:=⟨_,rfl⟩;subst hwo;clear HJ HY HN;go_wp2_with fail
   go_loopw [17] (λk wr=>∃s k0:Nat,v<=s/\s<=L.length/\k = .int .i64 (k0:Int)/\Hid (a+s = k0)/\jJ cE 2 W0 wr b o (P++(L.take s++(y :: (L.drop s++Q))))) (λk _=>(intOf k).toNat)
   case atStart=>exact ⟨L.length,m,hv,J,rfl,hm,by simpa using hS⟩
   case round =>
    obtain ⟨s,k1,cS,hs,rfl,HK,bS⟩:=hrel;by_cases ap:v < s
    ·obtain ⟨s,rfl⟩:∃s',s = s'+1:=⟨s - 1,J⟩;obtain ⟨k0,rfl⟩:∃k',k1 = k'+1:=⟨k1 - 1,by have:=HK.out;omega⟩;have lL:(j0:Int) < k0+1:=(by have:=HI.out;have:=HK.out;omega);have Rm:k0+1<=m:=(by have:=HK.out;have:=hm.out;omega);have hsL:s < L.length:=J;obtain ⟨x,hx⟩:∃x,L[s] = x:=⟨_,rfl⟩;have ki:L.drop s = x :: L.drop (s+1):=(by rw [<- hx];exact (List.getElem_cons_drop ..).symm);have tz:L.take (s+1) = L.take s++[x]:=(by rw [<- hx];exact List.take_succ_eq_append_getElem hsL);rw [tz] at bS;have cG:jJ cE 2 W0 wr b o (P++(L.take s++(x :: y :: (L.drop (s+1)++Q)))):=by
      have e:P++((L.take s++[x])++(y :: (L.drop (s+1)++Q))) = P++(L.take s++(x :: y :: (L.drop (s+1)++Q))):=(by simp only [List.append_assoc,List.cons_append,List.nil_append]);rw [<- e];exact bS
     have xF:P.length+(L.take s).length = k0:=(by rw [List.length_take];have:=HK.out;have:=ha.out;omega);have g1:=wY P (L.take s) (L.drop (s+1)++Q) x y xF;have g2:=wZ P (L.take s) (L.drop (s+1)++Q) x y xF;have Ao:wr.cell? ⟨b,o+k0 * 2,none⟩ = some (.string x.key):=cG.tab _ x g1 0 _ rfl;have Aw:wr.cell? ⟨b,o+k0 * 2+1,none⟩ = some (.string x.value):=cG.tab _ x g1 1 _ rfl;have tQ:wr.cell? ⟨b,o+(k0+1) * 2,none⟩ = some (.string y.key):=cG.tab _ y g2 0 _ rfl;have tR:wr.cell? ⟨b,o+(k0+1) * 2+1,none⟩ = some (.string y.value):=cG.tab _ y g2 1 _ rfl;have qf:=cG.plain.frozen;have ql:=cG.plain.lt;have h2:=cG.swap_ (λ_=>rfl) g2 g1;rw [V7 P (L.take s) (L.drop (s+1)++Q) x y xF] at h2;have H2:=I h2;have HDR:=I ki;clear bS cG h2 tz ki xF g1 g2 hx;go_wp2_with fail
     go_region
     go_wp2;refine ⟨⟨s,k0,J,J,N',I QZ,?_⟩,by simp [intOf]⟩;have h3:=jJ.ext H2.out (aA (aj _));rw [HDR.out];exact h3
    ·have sA:s = v:=J;subst sA;have hkj:k1 = j0:=(by have:=HI.out;have:=HK.out;omega);subst hkj;exact Mg
end
section
theorem ia (K:Nat):∀(W0 w:World) (b o c N:Nat) (P L R Q:List ao) (a m bb:Nat) (cv:ao->ao->Int) (h:jJ cE 2 W0 w b o (P++(L++(R++Q)))) (hN:(P++(L++(R++Q))).length<=N) (BI:N<=1048576) (ha:Hid (P.length = a)) (hm:Hid (a+L.length = m)) (hb:Hid (m+R.length = bb)) (h1:0 < L.length) (h2:0 < R.length) (W:dz (kS cv)) (hL:b4 (kS cv) L) (hR:b4 (kS cv) R) (hc:j5 cv W0 b) (hK:L.length+R.length<=K),
 Calls Tryz.prog 176 #[.slice (some ⟨b,o,none⟩) N c,.int .i64 a,.int .i64 m,.int .i64 bb,.func (.func 116) #[] #[]] w λe w'=>e = .returned (.tuple #[])/\jJ cE 2 W0 w' b o (P++(fO (kS cv) L R++Q)):=by
 induction K with
 | zero=>intro W0 w b o c N P L R Q a m bb cv h hN BI ha hm hb h1 h2 W hL hR hc hK;omega
 | succ K ih =>
   intro W0 w b o c N P L R Q a m bb cv h hN BI ha hm hb h1 h2 W hL hR hc hK;by_cases rh:L.length = 1
   ·obtain ⟨x,rfl⟩:=List.length_eq_one_iff.1 rh;have e:m = a+1:=(by simpa using hm.out.symm);subst e;exact l5 W0 w b o c N P R Q x a bb cv h hN BI ha hb W hR hc
   by_cases bO:R.length = 1
   ·obtain ⟨y,rfl⟩:=List.length_eq_one_iff.1 bO;have e:bb = m+1:=(by simpa using hb.out.symm);subst e;exact kR W0 w b o c N P L Q y a m cv h hN BI ha hm J W hL hc
   have SN:(P++(L++(R++Q))).length = P.length+L.length+R.length+Q.length:=(by simp only [List.length_append];omega);have HN:=I (show P.length+L.length+R.length+Q.length<=N by omega);have bE:bb<=N:=(by have:=HN.out;have:=ha.out;have:=hm.out;have:=hb.out;omega);have hLL:2<=L.length:=J;have qz:2<=R.length:=J;have ham:a+2<=m:=(by have:=hm.out;omega);have hmb:m+2<=bb:=(by have:=hb.out;omega);have HC:=I hc;have HW:=I W;have cW:=I hL;have Hs:=I hR;have TL:=I hK;have Hu:=I ih;have Yj:((m:Int) - a == 1) = false:=(by simp;omega);have ua:((bb:Int) - m == 1) = false:=(by simp;omega);obtain ⟨fl,hmid⟩:∃fl:Nat,(a+bb) / 2 = fl:=⟨_,rfl⟩;have hmI:((a:Int)+bb) / 2 = fl:=J;obtain ⟨d,hd⟩:∃d,a+d = fl:=⟨fl - a,J⟩;have HD:=I (show a+d = fl/\(2 * d = L.length+R.length∨2 * d+1 = L.length+R.length) by have:=hm.out;have:=hb.out;omega);obtain ⟨lo,HLO⟩:∃lo:Nat,Hid ((fl < m->lo+R.length = d)/\(¬fl < m->lo = 0)):=by
    by_cases uP:fl < m
    ·exact ⟨d - R.length,I ⟨λ_=>by have:=HD.out;have:=hm.out;have:=hb.out;omega,λh=>absurd uP h⟩⟩
    ·exact ⟨0,I ⟨λh=>absurd h uP,λ_=>rfl⟩⟩
   obtain ⟨hi,HHI⟩:∃hi:Nat,Hid ((fl < m->hi = d)/\(¬fl < m->hi = L.length)):=by
    by_cases uP:fl < m
    ·exact ⟨d,I ⟨λ_=>rfl,λh=>absurd uP h⟩⟩
    ·exact ⟨L.length,I ⟨λh=>absurd h uP,λ_=>rfl⟩⟩
   have Yk:a<=fl/\fl<=bb:=J;obtain ⟨hma,hmbb⟩:=Yk;clear hc hN W hL hR hK ih rh bO SN hmid hd;go_enter Tryz.func176,Tryz.ntmps176;by_cases uP:fl < m
   ·have mU:lo+R.length = d:=(by have:=HLO.out.1 uP;omega);have Cs:hi = d:=HHI.out.1 uP;have ZC:=I (show lo = 0∨lo+R.length = d from .inr mU);have ZD:=I (show hi = L.length∨hi = d from .inr Cs);exact Jc
   ·have mU:lo = 0:=HLO.out.2 J;have Cs:hi = L.length:=HHI.out.2 J;have ZC:=I (show lo = 0∨lo+R.length = d from .inl mU);have ZD:=I (show hi = L.length∨hi = d from .inl Cs);exact Jc
end
section
theorem pd (W0 w:World) (b o c N:Nat) (D:List ao) (cv:ao->ao->Int) (h:jJ cE 2 W0 w b o (D)) (hN:D.length = N) (BI:N<=1048576) (W:dz (kS cv)) (hc:j5 cv W0 b) :
 Calls Tryz.prog 151 #[.slice (some ⟨b,o,none⟩) N c,.int .i64 N,.func (.func 116) #[] #[]] w λe w'=>e = .returned (.tuple #[])/\jJ cE 2 W0 w' b o (bd (kS cv) [] D):=by
 have HC:=I hc;have HW:=I W;have HN:=I hN;clear hc hN W;go_enter Tryz.func151,Tryz.ntmps151;go_wp2_with fail
 go_loopw [7,8] (λi j wr=>∃(a0 b0:Nat) (A:List ao),i = .int .i64 (a0:Int)/\j = .int .i64 (b0:Int)/\b0 = a0+20/\a0<=N/\Hid (A.length = a0)/\Hid (runs (kS cv) 20 D = A++runs (kS cv) 20 (D.drop a0))/\jJ cE 2 W0 wr b o (A++D.drop a0)) (λi _ _=>N - (intOf i).toNat)
 case atStart=>exact ⟨0,20,[],rfl,rfl,rfl,J,I rfl,I S',by simpa using h⟩
 case round =>
  obtain ⟨a0,b0,A,rfl,rfl,cY,UX,HA,HR,hS⟩:=hrel;by_cases ap:b0<=N
  ·have HB:=I cY;have Ch:a0 < b0:=J;clear cY;go_wp2_with fail
   have hx:((D.drop a0).take 20).length = 20:=(by rw [List.length_take,List.length_drop];have:=HB.out;have:=HN.out;omega);have ki:(D.drop a0).drop 20 = D.drop b0:=(by rw [List.drop_drop,HB.out]);have lM:=Ky (lt:=(kS cv)) (s:=20) J (D.drop a0);rw [ki] at lM;refine (gD W0 _ b o c N A ((D.drop a0).take 20) (D.drop b0) a0 b0 cv (by rw [<- ki,List.take_append_drop];exact hS) (by rw [<- ki,List.take_append_drop,List.length_append,List.length_drop];have:=HA.out;have:=HN.out;omega) BI HA (I (by rw [hx];exact HB.out.symm)) HW.out HC.out).mono ?_;rintro e w2 ⟨rfl,bS⟩;have HX:=I hx;have HST:=I lM;clear hx ki lM;go_wp2;refine ⟨⟨b0,b0+20,A++bd (kS cv) [] ((D.drop a0).take 20),rfl,N',rfl,ap,I (by rw [List.length_append,rD,HX.out,HA.out,HB.out];simp),I awE,by simpa only [List.append_assoc] using bS⟩,by simp [intOf];have:=HB.out;omega⟩
  ·go_wp2_with fail
   have hx:(D.drop a0).length<=20:=(by rw [List.length_drop];have:=HN.out;omega);have lM:=zo (lt:=(kS cv)) hx;refine (gD W0 _ b o c N A (D.drop a0) [] a0 N cv awF (by rw [List.append_nil,List.length_append,List.length_drop];have:=HA.out;have:=HN.out;omega) BI HA (I NL) HW.out HC.out).mono ?_;rintro e w2 ⟨rfl,bS⟩;have cG:jJ cE 2 W0 w2 b o (runs (kS cv) 20 D):=(by rw [HR.out,lM];simpa only [List.append_nil] using bS);clear bS hS hx lM HR HA cY ap;go_wp2_with fail
   go_loopw [6] (λz wr=>∃s:Nat,0 < s/\s<=2097152/\z = .int .i64 (s:Int)/\jJ cE 2 W0 wr b o (runs (kS cv) s D)) (λz _=>N - (intOf z).toNat)
   case atStart=>exact ⟨20,J,J,rfl,cG⟩
   case round =>
    obtain ⟨s,ky,cS,rfl,ph⟩:=hrel;by_cases xd:s < N
    ·obtain ⟨wo,hwo⟩:∃wo,wo = wr:=⟨_,rfl⟩;subst hwo;clear cG;go_wp2_with fail
     go_loopw [7,8] (λi j wr=>∃(a0 b0:Nat) (A:List ao),i = .int .i64 (a0:Int)/\j = .int .i64 (b0:Int)/\b0 = a0+2 * s/\a0<=N/\Hid (A.length = a0)/\Hid (runs (kS cv) (2 * s) D = A++runs (kS cv) (2 * s) (D.drop a0))/\jJ cE 2 W0 wr b o (A++runs (kS cv) s (D.drop a0))) (λi _ _=>N - (intOf i).toNat)
     case atStart=>exact ⟨0,2 * s,[],rfl,N',J,J,I rfl,I S',by simpa using ph⟩
     case round =>
      obtain ⟨a0,b0,A,rfl,rfl,cY,UX,HA,HR,hS⟩:=hrel;by_cases ap:b0<=N
      ·have HB:=I cY;have Ch:a0+s < b0:=J;clear cY;go_wp2_with fail
       obtain ⟨h1,h2⟩:=am0 HW.out ky (D.drop a0);have ki:(D.drop a0).drop (2 * s) = D.drop b0:=(by rw [List.drop_drop,HB.out]);have lM:=Ky (lt:=(kS cv)) (s:=2 * s) J (D.drop a0);rw [ki] at h1 lM;have fu:(bd (kS cv) [] ((D.drop a0).take s)).length = s:=(by rw [rD,List.length_take,List.length_drop];have:=HB.out;have:=HN.out;simp;omega);have cA:(bd (kS cv) [] (((D.drop a0).drop s).take s)).length = s:=(by rw [rD,List.length_take,List.length_drop,List.length_drop];have:=HB.out;have:=HN.out;simp;omega);have nU:(runs (kS cv) s (D.drop b0)).length = N - b0:=(by rw [am3 ky _ _ (Nat.le_refl _),List.length_drop,HN.out]);rw [h1] at hS;have hx:(bd (kS cv) [] ((D.drop a0).take (2 * s))).length = 2 * s:=(by rw [rD,List.length_take,List.length_drop];have:=HB.out;have:=HN.out;simp;omega);rw [show ((a0:Int)+s) = ((a0+s:Nat):Int) by omega];refine (ia (s+s) W0 _ b o c N A _ _ _ a0 (a0+s) b0 cv hS (by simp only [List.length_append,fu,cA,nU];have:=HA.out;have:=HB.out;omega) BI HA (I (by rw [fu])) (I (by rw [cA];have:=HB.out;omega)) J J HW.out (yc HW.out _ _ List.Pairwise.nil) (yc HW.out _ _ List.Pairwise.nil) HC.out (by rw [fu,cA];exact Nat.le_refl _)).mono ?_;rintro e w2 ⟨rfl,bS⟩;rw [h2] at bS;have HX:=I hx;have HST:=I lM;clear h1 h2 ki lM fu cA nU hx hS;go_wp2;refine ⟨⟨b0,b0+2 * s,A++bd (kS cv) [] ((D.drop a0).take (2 * s)),rfl,N',rfl,ap,I (by rw [List.length_append,HX.out,HA.out,HB.out]),I awE,by simpa only [List.append_assoc] using bS⟩,by simp [intOf];omega⟩
      ·by_cases hm:a0+s < N
       ·go_wp2_with fail
        obtain ⟨h1,h2⟩:=ajf HW.out ky (ys:=D.drop a0) NL NL;have fu:(bd (kS cv) [] ((D.drop a0).take s)).length = s:=(by rw [rD,List.length_take,List.length_drop];have:=HN.out;simp;omega);have cA:(bd (kS cv) [] ((D.drop a0).drop s)).length = N - a0 - s:=(by rw [rD,List.length_drop,List.length_drop];have:=HN.out;simp;omega);rw [h1] at hS;try rw [show ((a0:Int)+s) = ((a0+s:Nat):Int) by omega]
        refine (ia (s+s) W0 _ b o c N A _ _ [] a0 (a0+s) N cv awF (by simp only [List.length_append,fu,cA,List.length_nil];have:=HA.out;omega) BI HA (I (by rw [fu])) (I (by rw [cA];omega)) J J HW.out (yc HW.out _ _ List.Pairwise.nil) (yc HW.out _ _ List.Pairwise.nil) HC.out (by rw [fu,cA];omega)).mono ?_;rintro e w2 ⟨rfl,bS⟩;rw [h2,List.append_nil,<- HR.out] at bS;clear h1 h2 fu cA hS;go_wp2;refine ⟨⟨2 * s,J,J,by first | go_num | (congr 1;omega),bS⟩,by simp [intOf];omega⟩
       ·go_wp2;have e1:=zo (lt:=(kS cv)) (s:=s) (xs:=D.drop a0) NL;have e2:=zo (lt:=(kS cv)) (s:=2 * s) (xs:=D.drop a0) NL;rw [e1,<- e2,<- HR.out] at hS;refine ⟨⟨2 * s,J,J,by first | go_num | (congr 1;omega),hS⟩,by simp [intOf];omega⟩
    ·go_wp2;go_end0
     refine ⟨rfl,?_⟩;rw [<- zo (lt:=(kS cv)) (s:=s) (by have:=HN.out;omega)];exact ph
theorem kW (W0 w:World) (b o c N:Nat) (D:List ao) (cv:ao->ao->Int) (h:jJ cE 2 W0 w b o (D)) (hN:D.length = N) (BI:N<=1048576) (W:dz (kS cv)) (hc:j5 cv W0 b) :
 Calls Tryz.prog 115 #[.slice (some ⟨b,o,none⟩) N c,.func (.func 116) #[] #[]] w λe w'=>e = .returned (.tuple #[])/\jJ cE 2 W0 w' b o (bd (kS cv) [] D):=by
 have HN:=I hN;clear hN;go_enter Tryz.func115,Tryz.ntmps115;go_wp2_with fail
 refine (pd W0 _ b o c N D cv h HN.out BI W hc).mono ?_;rintro e w2 ⟨rfl,hS⟩;go_wp2;go_end0
 exact ⟨rfl,hS⟩
theorem l6 (w:World) (A:Option Addr) (c:Nat) (f:Value):Calls Tryz.prog 175 #[.slice A 0 c,.int .i64 0,.int .i64 0,f] w λe w'=>e = .returned (.tuple #[])/\w' = w:=by
 go_enter Tryz.func175,Tryz.ntmps175;go_wp2_with fail
 go_loopw [8] (λi wr=>i = .int .i64 1/\wr = w) (λ_ _=>0)
 case atStart=>exact ⟨S',rfl⟩
 case round =>
  obtain ⟨rfl,rfl⟩:=hrel;go_wp2;go_end0
  exact ⟨rfl,rfl⟩
theorem pe (w:World) (A:Option Addr) (c:Nat) (f:Value):Calls Tryz.prog 151 #[.slice A 0 c,.int .i64 0,f] w λe w'=>e = .returned (.tuple #[])/\w' = w:=by
 go_enter Tryz.func151,Tryz.ntmps151;go_wp2_with fail
 go_loopw [7,8] (λi j wr=>i = .int .i64 0/\j = .int .i64 20/\wr = w) (λ_ _ _=>0)
 case atStart=>exact ⟨rfl,rfl,rfl⟩
 case round =>
  obtain ⟨rfl,rfl,hw⟩:=hrel;subst hw;go_wp2_with fail
  refine (l6 _ A c f).mono ?_;rintro e w2 ⟨rfl,zA⟩;subst zA;go_wp2_with fail
  go_loopw [6] (λz wz=>z = .int .i64 20/\wz = w2) (λ_ _=>0)
  case atStart=>exact ⟨rfl,rfl⟩
  case round =>
   obtain ⟨rfl,hw⟩:=hrel;subst hw;go_wp2;go_end0
   exact ⟨rfl,rfl⟩
theorem kX (w:World) (A:Option Addr) (c:Nat) (f:Value):Calls Tryz.prog 115 #[.slice A 0 c,f] w λe w'=>e = .returned (.tuple #[])/\w' = w:=by
 go_enter Tryz.func115,Tryz.ntmps115;go_wp2_with fail
 refine (pe _ A c f).mono ?_;rintro e w2 ⟨rfl,hw⟩;subst hw;go_wp2;go_end0
 exact ⟨rfl,rfl⟩
end
end Go.Proofs.YtdegaofigemegaaGreat
