/- Marks on strings and on a pod's lists that are made stay. No condition. -/
import Derived.Test.YtkbkikggodlbbaaGreatSz
import Derived.Test.YtkbkikggodlbbaaGreatLaw0
import Derived.Test.YtkbkikggodlbbaaGreatToBase
import Derived.Test.YtkbkikggodlbbaaGreatMkNeed
import Derived.Test.YtkbkikggodlbbaaGreatCmp2
import Derived.Shelf.Spec.SlicesInsert
import Derived.Lib.AppendZerosOnto
import Derived.Shelf.GgSortFunc.RowK
import Derived.Test.YtkbkikggodlbbaaGreatMark
import Derived.Test.YtkbkikggodlbbaaGreatStabM
import Derived.Deep.RegionLaw
import Derived.Deep.RegionWith
namespace Go.Proofs.YtkbkikggodlbbaaGreat
open Go.ChangeShapes Go.WideShapes Go.ChangeAt Go.RowKit
set_option linter.unusedVariables false
set_option linter.unusedSimpArgs false
set_option maxHeartbeats 2000000
set_option maxRecDepth 100000
theorem mW (x:ByteArray) (k:Int):nU (mkStr x k) = nU x:=rfl
theorem Eh (x:ByteArray) (k:Int):mkStr (mkStr x k) k = mkStr x k:=rfl
theorem FN {α:Type} {cnt f:α→Nat} {a:Nat} (h:∀x,cnt x≤a * (f x+1)):∀xs:List α,cO cnt xs≤a * kL f xs
 | []=>by simp [cO]
 | x :: xs=>by
   have h1:=FN h xs;have h2:=h x;unfold kL at h1 ⊢;simp only [cO,List.length_cons,List.map_cons,List.sum_cons];have e:a * (xs.length+1+(f x+(xs.map f).sum)) = a * (f x+1)+a * (xs.length+(xs.map f).sum):=(by rw [← Nat.mul_add];congr 1;omega);omega
theorem aiU (x:ByteArray):nU x≤1 * (x.size+1):=by unfold nU;omega
structure Cq3 (w wk:World) (cs zs os:List Value):Prop where
 box:oG wk w.heap.size cs
 rb:oG wk (w.heap.size+1) zs
 ob:oG wk (w.heap.size+1+1) os
 below:Below w.heap.size w wk
section
variable {w wk w':World} {cs zs os:List Value}
theorem Cq3.new (w:World) (cs zs os:List Value) (t t2 t3:TypeId):Cq3 w (((w.alloc (.cells cs.toArray t)).alloc (.cells zs.toArray t2)).alloc (.cells os.toArray t3)) cs zs os :=
 ⟨((oG.new w cs t).ext (ak (aj _) _)).ext (ak (aj _) _),(by have:=oG.new (w.alloc (.cells cs.toArray t)) zs t2;rw [World.size_alloc] at this;exact this.ext (ak (aj _) _)),(by have:=oG.new ((w.alloc (.cells cs.toArray t)).alloc (.cells zs.toArray t2)) os t3;rw [World.size_alloc,World.size_alloc] at this;exact this),ak (ak (ak (aj _) _) _) _⟩
theorem Cq3.ext (h:Cq3 w wk cs zs os) (hb:Below wk.heap.size wk w'):Cq3 w w' cs zs os:=⟨h.box.ext hb,h.rb.ext hb,h.ob.ext hb,ah h.below hb⟩
theorem Cq3.put (h:Cq3 w wk cs zs os) (i:Nat) (u:Value):Cq3 w (wk.setCell ⟨w.heap.size+1+1,i,none⟩ u) cs zs (os.set i u):=⟨h.box.far O' i u,h.rb.far O' i u,h.ob.put i u,aC h.below atX u⟩
end
theorem rd_extN {α:Type} [Dat α] {w w':World} {x:α} {cs:List Value} {F:List Nat} (h:rd w x cs F) (hb:Below w.heap.size w w'):rd w' x cs F:=Dat.frame h (fun b hb'=>hb.block b (Dat.lt h b hb')) hb.size
theorem WH (x:bH):bJ x≤4 * (x.wt+1):=by
 simp only [bJ,wtS,bH.wt] at *;omega
theorem DC (x:bH) (k:Int):bJ (rC x k) = bJ x:=by simp [bJ,rC]
theorem Uy (x:bH) (k:Int):rC (rC x k) k = rC x k:=by simp [rC]
theorem agJ (x:Need):fZ x≤2 * (x.wt+1):=by
 have h0:=FN (f:=ByteArray.size) aiU x.values;simp only [fZ,wtS,Need.wt] at *;omega
theorem MG (x:Need) (k:Int):fZ (H9 x k) = fZ x:=by simp [fZ,H9,iY mW]
theorem adQ (x:Need) (k:Int):H9 (H9 x k) k = H9 x k:=by simp [H9,qg mW Eh,iY mW]
theorem run_copyK {P:Program} (w:World) (dT sT ty elem:TypeId) (b o dLen dCap:Nat) (a:Addr) (sLen sCap S:Nat) (cs:List Value)
 (hu:P.underlying dT = some (.slice elem)) (hs:(P.info? elem).map (·.size) = some S) (hn:cs.length = Nat.min sLen dLen * S)
 (hsrc:∀j v,cs[j]? = some v→w.cell? (a.add j) = some v) (hc:∀j,j < cs.length→(w.cell? ⟨b,o+j,none⟩).isSome = true) (hf:∀j,j < cs.length→w.frozen? ⟨b,o+j,none⟩ = false) (h1:∀v∈cs,v.oneCell' = true) :
 (Builtin.copy_ #[dT,sT] ty #[.slice (some ⟨b,o,none⟩) dLen dCap,.slice (some a) sLen sCap]).run P w = .ok (goInt (Nat.min sLen dLen)) (w.setCells b o cs):=by
 have hl:=run_loadCells_list (P:=P) w a cs hsrc;have hst:=run_storeCells_cells (P:=P) b o cs 0 w (by simpa using hc) (by simpa using hf) h1;cases hq:P.info? elem with
 | none=>simp [hq] at hs
 | some i =>have hi:i.size = S:=(by simpa [hq] using hs);simp [Builtin.copy_,run_underlying hu,Builtin.lenOf,Builtin.firstCells,sizeOf,typeInfo,hq,hi,← hn,hl,hst]
theorem setCells_heap (b:Nat):∀(vs:List Value) (o:Nat) (w:World) (cur:Array Value) (t:TypeId) (m:Nat × Nat),w.heap[b]? = some (.cells cur t m)→(w.setCells b o vs).heap[b]? = some (.cells (Go.Sort.setMany cur o vs) t m)
 | [],_,_,_,_,_,h=>h
 | v :: r,o,w,cur,t,m,h=>by
   rw [World.setCells,Go.Sort.setMany];exact setCells_heap b r (o+1) _ _ t m (by simp [World.setCell,Array.getElem?_modify,h])
theorem insGetK {R:List Value} {N S:Nat} {arr:Array Value} (hl:R.length = N+S) (hs:N+S≤arr.size) (h:∀j,j < N+S→arr[j]! = R[j]!):arr.toList.take (N+S) = R:=by
 apply List.ext_getElem
 ·rw [List.length_take,Array.length_toList,hl];omega
 ·intro j h1 h2;have hj:j < N+S:=by rw [← hl];exact h2
  have:=h j hj;rw [getElem!_pos arr j O',getElem!_pos R j h2] at this;rw [List.getElem_take,Array.getElem_toList];exact this
theorem insAtK (ds cs:List Value) (A N S:Nat) (hcl:cs.length = S) (hdl:ds.length = N) (hA:A≤N) (j:Nat) (hj:j < N+S) :
 (ds.take A++(cs++ds.drop A))[j]! = if j < A then ds[j]! else if j < A+S then cs[j - A]! else ds[j - S]!:=by
 have hl:(ds.take A++(cs++ds.drop A)).length = N+S:=by simp only [List.length_append,List.length_take,List.length_drop];omega
 rw [getElem!_pos _ j O'];by_cases h1:j < A
 ·rw [if_pos h1,getElem!_pos ds j O',List.getElem_append_left avI,List.getElem_take]
 ·rw [if_neg h1,List.getElem_append_right avI];by_cases h2:j < A+S
  ·rw [if_pos h2,getElem!_pos cs _ O',List.getElem_append_left avI];congr 1;rw [List.length_take];omega
  ·rw [if_neg h2,getElem!_pos ds _ O',List.getElem_append_right avI,List.getElem_drop];congr 1;simp only [List.length_take];omega
theorem ins_take (cur:Array Value) (ds cs:List Value) (A N S:Nat) (hcl:cs.length = S) (hdl:ds.length = N) (hA:A≤N) (hsz:N+S≤cur.size) (hpre:∀t,t < A→cur[t]! = ds[t]!) :
 (Go.Sort.setMany (Go.Sort.setMany cur (A+S) (ds.drop A)) A cs).toList.take (N+S) = ds.take A++(cs++ds.drop A):=by
 refine insGetK (by simp only [List.length_append,List.length_take,List.length_drop];omega) (by simpa using hsz) fun j hj=>?_;rw [insAtK ds cs A N S hcl hdl hA j hj,Go.Sort.get_setMany _ _ _ _ (by simp;omega),Go.Sort.get_setMany _ _ _ _ O',hcl,List.length_drop];by_cases h1:j < A
 ·rw [if_neg O',if_neg O',if_pos h1];exact hpre j h1
 ·rw [if_neg h1];by_cases h2:j < A+S
  ·rw [if_pos O',if_pos h2]
  ·rw [if_neg O',if_pos O',if_neg h2,getElem!_pos (ds.drop A) _ awz,getElem!_pos ds _ O',List.getElem_drop];congr 1;omega
theorem ins_take2 (cur:Array Value) (ds cs:List Value) (A N S:Nat) (hcl:cs.length = S) (hdl:ds.length = N) (hA:A≤N) (hsz:N+S≤cur.size) (hpre:∀t,t < A→cur[t]! = ds[t]!) :
 (Go.Sort.setMany (Go.Sort.setMany cur A cs) (A+S) (ds.drop A)).toList.take (N+S) = ds.take A++(cs++ds.drop A):=by
 refine insGetK (by simp only [List.length_append,List.length_take,List.length_drop];omega) (by simpa using hsz) fun j hj=>?_;rw [insAtK ds cs A N S hcl hdl hA j hj,Go.Sort.get_setMany _ _ _ _ (by simp;omega),Go.Sort.get_setMany _ _ _ _ O',hcl,List.length_drop];by_cases h1:j < A
 ·rw [if_neg O',if_neg O',if_pos h1];exact hpre j h1
 ·rw [if_neg h1];by_cases h2:j < A+S
  ·rw [if_neg O',if_pos O',if_pos h2]
  ·rw [if_pos O',if_neg h2,getElem!_pos (ds.drop A) _ awz,getElem!_pos ds _ O',List.getElem_drop];congr 1;omega
def lrow (x:Label):List Value:=[.string x.key,.string x.value]
def trow (x:iU):List Value:=[.string x.key,.string x.value,.int .i64 x.effect]
def vrow (x:bH):List Value:=[.string x.key,.bool x.equal,.string x.value,.int .i64 x.effect]
section
variable {β:Type} {row:β→List Value} {S:Nat}
theorem rowsAt (hS:∀x,(row x).length = S):∀(D:List β) (k:Nat) (x:β),D[k]? = some x→∀(j:Nat) (u:Value),(row x)[j]? = some u→(D.flatMap row)[k * S+j]? = some u
 | [],_,_,h,_,_,_=>by simp at h
 | r :: rs,0,x,h,j,u,hj=>by
   exact Zad8
 | r :: rs,k+1,x,h,j,u,hj=>by
   rw [List.getElem?_cons_succ] at h;have hr:=hS r;have hk:(k+1) * S+j = k * S+j+S:=(by rw [Nat.succ_mul];omega);rw [List.flatMap_cons,List.getElem?_append_right O',hr,show (k+1) * S+j - S = k * S+j by omega];exact rowsAt hS rs k x h j u hj
theorem rowsLen (hS:∀x,(row x).length = S):∀D:List β,(D.flatMap row).length = D.length * S
 | []=>by simp
 | r :: rs=>by rw [List.flatMap_cons,List.length_append,hS,rowsLen hS rs,List.length_cons,Nat.succ_mul];omega
theorem rowsOne (h1:∀x,∀u∈row x,u.oneCell' = true) (D:List β):∀u∈D.flatMap row,u.oneCell' = true:=fun u hu=>by
 obtain ⟨x,_,hx⟩:=List.mem_flatMap.1 hu;exact h1 x u hx
theorem rows_own [Dat β] {w:World} {B e g cap:Nat} (hd:Dat.size β = S) (D:List β) (h:w.ownsRow B e S (.slice (some ⟨g,0,none⟩) D.length cap) D.length (D.flatMap row)) (hr:∀x∈D,rd w x (row x) []):∃A c G,Value.slice (some ⟨g,0,none⟩) D.length cap = .slice A D.length c∧Own w B D [.slice A D.length c] G:=by
 subst hd;have hrc:∀D:List β,(∀x∈D,rd w x (row x) [])→jo w D (D.flatMap row) []:=fun D=>by
  induction D with
  | nil=>intro _;exact ⟨rfl,rfl⟩
  | cons x D ih=>intro hD;exact ⟨row x,D.flatMap row,[],[],rfl,rfl,hD x (List.mem_cons_self ..),ih fun y hy=>hD y (List.mem_cons_of_mem _ hy)⟩
 exact Own.oJ h ⟨hrc D hr,List.nodup_nil,(fun b hb=>by cases hb),(fun b hb=>by cases hb)⟩ (fun g hg hm=>by cases hm)
end
theorem lrow_one (x:Label):∀u∈lrow x,u.oneCell' = true:=by intro u hu;simp only [lrow,List.mem_cons,List.not_mem_nil,or_false] at hu;rcases hu with rfl | rfl <;> rfl
theorem trow_one (x:iU):∀u∈trow x,u.oneCell' = true:=by intro u hu;simp only [trow,List.mem_cons,List.not_mem_nil,or_false] at hu;rcases hu with rfl | rfl | rfl <;> rfl
theorem vrow_one (x:bH):∀u∈vrow x,u.oneCell' = true:=by intro u hu;simp only [vrow,List.mem_cons,List.not_mem_nil,or_false] at hu;rcases hu with rfl | rfl | rfl | rfl <;> rfl
def insAt {α:Type} (i:Nat) (x:α) (xs:List α):List α:=xs.take i++x :: xs.drop i
theorem insAt_len {α:Type} (i:Nat) (x:α) (xs:List α):(insAt i x xs).length = xs.length+1:=by simp [insAt];omega
theorem aY.ins {α:Type} [Dat α] {w:World} {B:Nat} {xs:List α} {x:α} {ds cs:List Value} {F G:List Nat} (h:aY w B xs ds F) (hx:Own w B x cs G) (hd:∀y∈F,y∉G) (i:Nat) (hi:i≤xs.length) :
 ∃F',aY w B (insAt i x xs) (ds.take (i * Dat.size α)++(cs++ds.drop (i * Dat.size α))) F'∧(∀y∈F',y∈F∨y∈G):=by
 obtain ⟨hr,hn,hb,hp⟩:=h;rw [← List.take_append_drop i xs] at hr;obtain ⟨d1,d2,F1,F2,rfl,rfl,h1,h2⟩:=jo.of_append hr;have hl:d1.length = i * Dat.size α:=by rw [h1.len,List.length_take,Nat.min_eq_left hi]
 rw [← hl,List.take_left,List.drop_left];have hn3:=List.nodup_append.1 hn;have hsub:∀y∈F1++(G++F2),y∈F1++F2∨y∈G:=fun y hy=>by
  simp only [List.mem_append] at hy ⊢;rcases hy with hy | hy | hy <;> simp [hy]
 refine ⟨F1++(G++F2),⟨h1.append ⟨cs,d2,G,F2,rfl,rfl,hx.rd,h2⟩,?_,fun y hy=>?_,fun y hy=>?_⟩,hsub⟩
 ·rw [List.nodup_append,List.nodup_append];refine ⟨hn3.1,⟨hx.nodup,hn3.2.1,fun a ha b hb' e=>hd b (List.mem_append_right _ hb') (e ▸ ha)⟩,fun a ha b hb' e=>?_⟩;rcases List.mem_append.1 hb' with hb' | hb'
  ·exact hd a (List.mem_append_left _ ha) (e ▸ hb')
  ·exact hn3.2.2 a ha b hb' e
 ·rcases hsub y hy with hy | hy
  ·exact hb y hy
  ·exact hx.base y hy
 ·rcases hsub y hy with hy | hy
  ·exact hp y hy
  ·exact hx.plain y hy
theorem Own.of_rowI {α:Type} [Dat α] {w:World} {B:Nat} {xs:List α} {ds:List Value} {F:List Nat} {e:TypeId} {v:Value} (h0:w.ownsRow B e (Dat.size α) v xs.length ds) (h:aY w B xs ds F) (hne:∀g,v.ownBlock = some g→g∉F):∃A c G,v = .slice A xs.length c∧Own w B xs [.slice A xs.length c] G∧∀y∈G,y∈F∨v.ownBlock = some y:=by
 rcases h0 with ⟨hl,⟨rfl,hn⟩ | ⟨g,cap,cur,rfl,hb,hh,hle,hm,hcs,ht⟩⟩
 ·obtain rfl:xs = []:=List.eq_nil_of_length_eq_zero hn;exact ⟨none,0,[],rfl,⟨Sl.nil w none 0 (Nat.zero_le _),List.nodup_nil,(fun b hb=>by cases hb),(fun b hb=>by cases hb)⟩,(fun b hb=>by cases hb)⟩
 ·have hg:g < w.heap.size:=by
   exact Zadj
  refine ⟨_,cap,g :: F,rfl,⟨⟨_,cap,F,ds,rfl,hle,hm,h.rd,.inr ⟨g,0,rfl,rfl,hg,fun j u hu=>?_⟩⟩,?_,?_,?_⟩,fun y hy=>?_⟩
  ·rw [Nat.zero_add,cell_of_row w g j cur e (0,0) hh];exact Zacs
  ·rw [List.nodup_cons];exact ⟨hne g rfl,h.nodup⟩
  ·intro b hb';rcases List.mem_cons.1 hb' with rfl | hb'
   ·exact hb
   ·exact h.base b hb'
  ·intro b hb';rcases List.mem_cons.1 hb' with rfl | hb'
   ·exact ⟨cur,e,hh⟩
   ·exact h.plain b hb'
  ·rcases List.mem_cons.1 hy with rfl | hy
   ·exact .inr rfl
   ·exact .inl hy
section
theorem swapRangeL_any (W0 w:World) (b o c N:Nat) (p u m v q:List Label) (a bb n:Nat) (f:Value) (h:jJ lrow 2 W0 w b o (p++(u++(m++(v++q))))) (hN:(p++(u++(m++(v++q)))).length≤N) (BI:N≤1048576) (ha:Hid (p.length = a)) (hu:Hid (u.length = n)) (hv:Hid (v.length = n)) (hm:Hid (p.length+u.length+m.length = bb)) :
 Calls Tryz.prog 261 #[.slice (some ⟨b,o,none⟩) N c,.int .i64 a,.int .i64 bb,.int .i64 n,f] w fun e w'=>e = .returned (.tuple #[])∧jJ lrow 2 W0 w' b o (p++(v++(m++(u++q)))):=by
 have hlen:a+n+m.length+n≤N:=by have e1:=ha.out;have e2:=hu.out;have e3:=hv.out;simp only [List.length_append] at hN;omega
 have hbb:bb = a+n+m.length:=by have e1:=ha.out;have e2:=hu.out;have e3:=hm.out;omega
 have HBB:=I' hbb;have hb1:a+n≤bb:=by omega
 have hb2:bb+n≤N:=by omega
 clear hbb;go_enter Tryz.func261,Tryz.ntmps261;go_wp2_with fail
 go_loopw [10] (fun i wr=>∃k:Nat,k≤n∧i = .int .i64 k∧jJ lrow 2 W0 wr b o (p++(v.take k++(u.drop k++(m++(u.take k++(v.drop k++q))))))) (fun i _=>n - (intOf i).toNat)
 case atStart=>exact ⟨0,Nat.zero_le _,rfl,by simpa using h⟩
 case round =>
  obtain ⟨k,hk,rfl,hS⟩:=hrel;by_cases hlt:k < n
  ·have hku:k < u.length:=(by have:=hu.out;omega);have hkv:k < v.length:=(by have:=hv.out;omega);have alj:u.length = v.length:=(by rw [hu.out,hv.out]);have gl:=am2 p u m v q k hku alj;have gr:=ajg p u m v q k hkv alj;have sg:=am1 p u m v q k hku alj;rw [hm.out] at gr sg;rw [ha.out] at gl sg;generalize u[k] = x at gl;generalize v[k] = y at gr;have HS:=I' hS;have qx0:wr.cell? ⟨b,o+(a+k) * 2,none⟩ = some (.string x.key):=hS.tab _ x gl 0 _ rfl;have qx1:wr.cell? ⟨b,o+(a+k) * 2+1,none⟩ = some (.string x.value):=hS.tab _ x gl 1 _ rfl;have qy0:wr.cell? ⟨b,o+(bb+k) * 2,none⟩ = some (.string y.key):=hS.tab _ y gr 0 _ rfl;have qy1:wr.cell? ⟨b,o+(bb+k) * 2+1,none⟩ = some (.string y.value):=hS.tab _ y gr 1 _ rfl;have qf:=hS.plain.frozen;have ql:=hS.plain.lt;have HGL:=I' gl;have HGR:=I' gr;have HSG:=I' sg;clear hS gl gr sg alj;go_wp2_with fail
   go_region
   go_wp2;have h2:=HS.out.swap_ (fun _=>rfl) HGL.out HGR.out;rw [HSG.out] at h2;exact ⟨⟨k+1,O',N',jJ.ext h2 (aA (aj _))⟩,by simp [intOf];omega⟩
  ·have hkl:k = n:=O';subst hkl;rw [← hu.out,List.take_of_length_le awC,List.drop_length,List.take_length,List.drop_of_length_le awC,List.nil_append,List.nil_append] at hS;go_wp2;go_end0
   exact ⟨rfl,hS⟩
theorem rotateL_any (W0 w:World) (b o c N:Nat) (p u v q:List Label) (a mm bb:Nat) (f:Value) (h:jJ lrow 2 W0 w b o (p++(u++(v++q)))) (hN:(p++(u++(v++q))).length≤N) (BI:N≤1048576) (ha:Hid (p.length = a)) (hm:Hid (a+u.length = mm)) (hb:Hid (mm+v.length = bb)) (hu0:0 < u.length) (hv0:0 < v.length) :
 Calls Tryz.prog 244 #[.slice (some ⟨b,o,none⟩) N c,.int .i64 a,.int .i64 mm,.int .i64 bb,f] w fun e w'=>e = .returned (.tuple #[])∧jJ lrow 2 W0 w' b o (p++(v++(u++q))):=by
 have hlen:a+u.length+v.length≤N:=by have e1:=ha.out;simp only [List.length_append] at hN;omega
 have hmm:a+u.length = mm:=hm.out;have hbb:mm+v.length = bb:=hb.out;have HM:=I' hmm;have HB:=I' hbb;have h1:a≤mm:=by omega
 have h2:mm≤bb:=by omega
 have h3:bb≤N:=by omega
 have MO:=I' hN;clear hmm hbb hN;go_enter Tryz.func244,Tryz.ntmps244;go_wp2_with fail
 go_loopw [10,11] (fun i j wr=>∃A U V B:List Label,i = .int .i64 U.length∧j = .int .i64 V.length∧0 < U.length∧0 < V.length∧Hid (v++u = A++(V++(U++B)))∧Hid (p.length+A.length+U.length = mm)∧jJ lrow 2 W0 wr b o (p++(A++(U++(V++(B++q)))))) (fun i j _=>(intOf i).toNat+(intOf j).toNat)
 case atStart =>have e1:=ha.out;have e2:=HM.out;have e3:=HB.out;exact ⟨[],u,v,[],by simp;omega,by simp;omega,hu0,hv0,I' S',I' (by simp;omega),by simpa using h⟩
 case round =>
  obtain ⟨A,U,V,B,rfl,rfl,hU,hV,hE,hP,hS⟩:=hrel;have hle:A.length+U.length+V.length+B.length = u.length+v.length:=by have:=congrArg List.length hE.out;simp only [List.length_append] at this;omega
  have hpa:p.length+A.length+U.length = mm:=hP.out;have hUm:U.length≤mm:=by omega
  have hbn:mm+V.length≤N:=by have e1:=ha.out;have e2:=HM.out;omega
  have HLE:=I' hle;have HPA:=I' hpa;have HS:=I' hS;clear hle hpa hS;have hlq:(p++(u++(v++q))).length = p.length+u.length+v.length+q.length:=by simp only [List.length_append];omega
  have HLQ:=I' hlq;clear hlq;rcases Nat.lt_trichotomy U.length V.length with hlt | heq | hgt
  ·have hne:((U.length:Int) != V.length) = true:=(by simp;omega);go_wp2_with fail
   obtain ⟨V1,V2,rfl,hV2⟩:∃V1 V2,V = V1++V2∧V2.length = U.length:=⟨V.take (V.length - U.length),V.drop (V.length - U.length),(List.take_append_drop ..).symm,by rw [List.length_drop];omega⟩;have hpa:=HPA.out;have hle:=HLE.out;have hl:(V1++V2).length = V1.length+V2.length:=List.length_append ..;rw [show (mm:Int) - U.length = ((p.length+A.length:Nat):Int) by omega,show (mm:Int)+(V1++V2).length - U.length = ((mm+V1.length:Nat):Int) by omega];refine (swapRangeL_any W0 wr b o c N (p++A) U V1 V2 (B++q) (p.length+A.length) (mm+V1.length) U.length f avF ?_ BI (I' S') (I' rfl) (I' hV2) (I' ?_)).mono ?_
   ·have:=MO.out;have:=HLQ.out;simp only [List.length_append] at *;omega
   ·simp only [List.length_append];omega
   rintro e w2 ⟨rfl,hS2⟩;clear hpa hle;go_wp2;refine ⟨⟨A,V2,V1,U++B,by rw [hV2],by first | rfl | (congr 1;omega),O',O',I' awD,I' (by have:=HPA.out;omega),by simpa [List.append_assoc] using hS2⟩,by simp only [intOf];omega⟩
  ·have hne:((U.length:Int) != V.length) = false:=(by simp;omega);go_wp2_with fail
   have hpa:=HPA.out;have hle:=HLE.out;rw [show (mm:Int) - V.length = ((p.length+A.length:Nat):Int) by omega];refine (swapRangeL_any W0 wr b o c N (p++A) U [] V (B++q) (p.length+A.length) mm V.length f avF ?_ BI (I' S') (I' heq) (I' rfl) (I' ?_)).mono ?_
   ·have:=MO.out;have:=HLQ.out;simp only [List.length_append,List.length_nil] at *;omega
   ·simp only [List.length_append,List.length_nil];omega
   rintro e w2 ⟨rfl,hS2⟩;clear hpa hle heq;go_wp2;go_end0
   refine ⟨rfl,?_⟩;have e9:p++(v++(u++q)) = (p++A)++(V++([]++(U++(B++q)))):=(by rw [← List.append_assoc v u q,hE.out];simp [List.append_assoc]);rw [e9];exact hS2
  ·have hne:((U.length:Int) != V.length) = true:=(by simp;omega);go_wp2_with fail
   obtain ⟨U1,U2,rfl,hU1⟩:∃U1 U2,U = U1++U2∧U1.length = V.length:=⟨U.take V.length,U.drop V.length,(List.take_append_drop ..).symm,by rw [List.length_take];omega⟩;have hpa:=HPA.out;have hle:=HLE.out;have hl:(U1++U2).length = U1.length+U2.length:=List.length_append ..;rw [show (mm:Int) - (U1++U2).length = ((p.length+A.length:Nat):Int) by omega];refine (swapRangeL_any W0 wr b o c N (p++A) U1 U2 V (B++q) (p.length+A.length) mm V.length f avF ?_ BI (I' S') (I' hU1) (I' rfl) (I' ?_)).mono ?_
   ·have:=MO.out;have:=HLQ.out;simp only [List.length_append] at *;omega
   ·simp only [List.length_append];omega
   rintro e w2 ⟨rfl,hS2⟩;clear hpa hle;go_wp2;refine ⟨⟨A++V,U2,U1,B,by first | rfl | (congr 1;omega),by rw [hU1],O',O',I' awD,I' (by have:=HPA.out;simp only [List.length_append] at *;omega),by simpa [List.append_assoc] using hS2⟩,by simp only [intOf];omega⟩
end
end Go.Proofs.YtkbkikggodlbbaaGreat
