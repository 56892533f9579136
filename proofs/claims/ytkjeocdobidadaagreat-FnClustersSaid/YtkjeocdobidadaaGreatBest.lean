/- BestHost, of the program and of the reference. No condition. -/
import Derived.Test.YtkjeocdobidadaaGreatRankP
import Derived.Test.YtkjeocdobidadaaGreatCmp2
import Derived.Test.YtkjeocdobidadaaGreatOrdP
import Derived.Test.YtkjeocdobidadaaGreatRankS
import Derived.Test.YtkjeocdobidadaaGreatCopyS
import Derived.Test.YtkjeocdobidadaaGreatAt
import Derived.Test.YtkjeocdobidadaaGreatMark
import Derived.Test.YtkjeocdobidadaaGreatData
import Derived.Test.YtkjeocdobidadaaGreatKeys
import Derived.Test.YtkjeocdobidadaaGreatClusterP
import Derived.Test.YtkjeocdobidadaaGreatStabM
import Derived.Test.YtkjeocdobidadaaGreatWaitLawP
namespace Go.Proofs.YtkjeocdobidadaaGreat
open Go.ChangeShapes Go.WideShapes Go.ChangeAt Go.RowKit
set_option linter.unusedVariables false
set_option linter.unusedSimpArgs false
set_option maxHeartbeats 4000000
set_option maxRecDepth 100000
def aff (x:aU) (p:nI):ByteArray:=(Jh x p).headD ⟨#[]⟩
def afg (x:aU) (p:nI):Bool:=!(Jh x p).isEmpty
theorem ahX (x:aU) (p:nI) (cs ps:List Value) (F G:List Nat) (w:World) (h:rd w x cs F) (h':rd w p ps G) (hw:(x.wt:Int)≤1048576) (hw':(p.wt:Int)≤1048576) :
 Calls Tryz.prog 105 #[.agg cs.toArray,.agg ps.toArray] w fun e w'=>e = .returned (.tuple #[.string (aff x p),.bool (afg x p)])∧Below w.heap.size w w':=by
 have HW:=I' hw;have Uc:=I' hw';clear hw hw';have hr:=h;have hr':=h';obtain ⟨bG,bD,fQ,dn,bW,jg,hck,hF,bQ,dM,hnext,aV,aP,aW⟩:=aO hr;obtain ⟨bY,bZ,iq,eU,eX,jV,bg,bn,dK,jU,hG,jW,dA,kQ,lg,lG,iO,bK⟩:=dL hr';subst hck jU;clear hF hG hr hr';have HB:=I' (show ∀l,Jh x p = l→aff x p = l.headD ⟨#[]⟩∧afg x p = !l.isEmpty from fun l hl=>by unfold aff afg;rw [hl];exact ⟨rfl,rfl⟩);go_enter Tryz.func105,Tryz.ntmps105;go_wp2_with fail
 refine (Xh x p _ _ _ _ _ (aJ h atT) (aJ h' atT) HW.out Uc.out).mono ?_;rintro e w1 ⟨A,c,G1,rfl,hO,hb1⟩;have hBB:Below w.heap.size w w1:=ah atT hb1;obtain ⟨l,hl⟩:∃l,Jh x p = l:=⟨_,rfl⟩;rw [hl] at hO ⊢;have HL:=I' (HB.out l hl);clear hl;cases l with
 | nil =>
   simp only [List.length_nil] at hO ⊢;go_wp2;go_ret2
   exact ⟨by rw [HL.out.1,HL.out.2];rfl,hBB⟩
 | cons y ys =>
   have hlt:(0:Nat) < (y :: ys).length:=S';obtain ⟨b,o,ck,Fk,hA,hbG,hbs,hrdk,_,hcells⟩:=Sl.get hO.rd hlt;subst hA;obtain ⟨hck,su,hsz⟩:=hrdk;subst hck;have hyc:w1.cell? ⟨b,o,none⟩ = some (.string y):=(by have:=hcells 0 _ rfl;simpa using this);have hne:(((y :: ys).length:Int) == 0) = false:=(by simp;omega);clear hcells hO hsz;obtain ⟨n,hn⟩:∃n,(y :: ys).length = n:=⟨_,rfl⟩;rw [hn] at hlt hne ⊢;clear hn;go_wp2;go_ret2
   exact ⟨by rw [HL.out.1,HL.out.2];rfl,hBB⟩
theorem Own.joinP {α β:Type} [Dat α] [Dat β] {w:World} {B:Nat} {x:α} {y:β} {c1 c2:List Value} {F1 F2:List Nat} (h1:Own w B x c1 F1) (h2:Own w B y c2 F2) (hd:∀b∈F1,b∉F2):Own w B (x,y) (c1++c2) (F1++F2):=by
 exact Zab7
theorem Own.partsP {w:World} {B:Nat} {x:aU} {Ah Ap:Option Addr} {nh ch np cp:Nat} {n p q f:Int} {G:List Nat} (h:Own w B x [.slice Ah nh ch,.slice Ap np cp,.int .i64 n,.int .i64 p,.int .i64 q,.int .i64 f] G) :
 ∃Gh Gp,Own w B x.hosts [.slice Ah nh ch] Gh∧Own w B x.au [.slice Ap np cp] Gp∧(∀y∈Gh,y∉Gp)∧(∀y∈Gh,y∈G)∧(∀y∈Gp,y∈G):=by
 obtain ⟨⟨c1,c2,F1,F2,e1,rfl,hh,d1,d2,G1,G2,e3,rfl,hp,g1,g2,H1,H2,e5,e6,⟨e7,e8,hn⟩,hwt⟩,hnd,hb,hpl⟩:=h;obtain ⟨A,c,rfl,_⟩:=jB hh;obtain ⟨A2,c2',rfl,_⟩:=jB hp;subst e7 e5 e3;simp only [List.cons_append,List.nil_append,List.cons.injEq] at e1;obtain ⟨ea,eb,_⟩:=e1;rw [List.nodup_append,List.nodup_append] at hnd;refine ⟨F1,G1,⟨by rw [ea];exact hh,hnd.1,fun y hy=>hb y (by simp [hy]),fun y hy=>hpl y (by simp [hy])⟩,⟨by rw [eb];exact hp,hnd.2.1.1,fun y hy=>hb y (by simp [hy]),fun y hy=>hpl y (by simp [hy])⟩,fun y hy hy'=>hnd.2.2 y hy y (by simp [hy']) rfl,fun y hy=>by simp [hy],fun y hy=>by simp [hy]⟩
theorem Own.wholeP {w:World} {B:Nat} {H:List Host} {Q:List Placed} {Ah Ap:Option Addr} {nh ch np cp:Nat} {n p q f:Int} {Gh Gp:List Nat} (h:Own w B H [.slice Ah nh ch] Gh) (k:Own w B Q [.slice Ap np cp] Gp) (hd:∀y∈Gh,y∉Gp) (hn:I64 n) (hp:I64 p) (hq:I64 q) (hf:I64 f) :
 Own w B (⟨H,Q,n,⟨p,q,f⟩⟩:aU) [.slice Ah nh ch,.slice Ap np cp,.int .i64 n,.int .i64 p,.int .i64 q,.int .i64 f] (Gh++Gp):=by
 refine Own.up (B':=B) (fun x:aU=>(x.hosts,x.au,x.next,x.weights)) ?_ (Nat.le_refl _);have h5:Own w B (⟨p,q,f⟩:rZ) ([.int .i64 p]++([.int .i64 q]++[.int .i64 f])) []:=by exact Zacz
 have h6:=Own.cons (jL w n hn) h5;have h7:=Own.joinP h (Own.joinP k h6 (fun b _ hb=>by cases hb)) (fun b hb hb'=>hd b hb (by simpa using hb'));simpa using h7
theorem Own.onP {w:World} {B:Nat} {p:Placed} {ck:List Value} {F:List Nat} (h:Own w B p ck F) (s:ByteArray) (hs:s.size≤maxLen):Own w B (⟨p.aS,s,p.seq⟩:Placed) (ck.set 7 (.string s)) F:=by
 obtain ⟨⟨c1,c2,F1,F2,rfl,rfl,QS,c3,c4,F3,F4,rfl,rfl,⟨rfl,rfl,hon⟩,⟨rfl,rfl,Ue⟩⟩,hnd,hb,hpl⟩:=h;have hl:c1.length = 7:=Dat.len QS;have e:(c1++([Value.string p.on]++[Value.int .i64 p.seq])).set 7 (.string s) = c1++([.string s]++[.int .i64 p.seq]):=by rw [List.set_append_right _ _ O',hl];rfl
 rw [e];exact ⟨⟨c1,_,F1,_,rfl,rfl,QS,_,_,_,_,rfl,rfl,⟨rfl,rfl,hs⟩,⟨rfl,rfl,Ue⟩⟩,hnd,hb,hpl⟩
def placeQ (x:aU) (k:Nat) (q:Placed):aU × ByteArray × Int :=
 if q.on.size = 0 then (if afg x q.aS = true then (⟨x.hosts,x.au.set k ⟨q.aS,aff x q.aS,q.seq⟩,x.next,x.weights⟩,aff x q.aS,0) else (x,⟨#[]⟩,6)) else (x,⟨#[]⟩,5)
def placeP (x:aU) (nm:ByteArray):aU × ByteArray × Int :=
 if iI x = true then (match x.au[(pK (CG nm) x.au).toNat]? with
   | some q=>if pK (CG nm) x.au < 0 then (x,⟨#[]⟩,3) else placeQ x (pK (CG nm) x.au).toNat q
   | none=>(x,⟨#[]⟩,3))
 else (x,⟨#[]⟩,1)
theorem placeP_bad {x:aU} {nm:ByteArray} (h:iI x = false):placeP x nm = (x,⟨#[]⟩,1):=by unfold placeP;rw [h];rfl
theorem placeP_none {x:aU} {nm:ByteArray} (h:iI x = true) (hn:pK (CG nm) x.au < 0):placeP x nm = (x,⟨#[]⟩,3):=by
 unfold placeP;rw [if_pos h];split
 ·exact if_pos hn
 ·rfl
theorem placeP_at {x:aU} {nm:ByteArray} {k:Nat} (h:iI x = true) (hk0:pK (CG nm) x.au = k) (hk:k < x.au.length):placeP x nm = placeQ x k x.au[k]:=by
 unfold placeP;rw [if_pos h,hk0,Int.toNat_natCast,List.getElem?_eq_getElem hk];exact if_neg O'
theorem bestS_le (x:aU) (p:nI) (hw:(x.wt:Int)≤1048576):((aff x p).size:Int)≤1048576:=by
 unfold aff;cases h:Jh x p with
 | nil=>exact (by decide:((⟨#[]⟩:ByteArray).size:Int)≤1048576)
 | cons y l =>
   have hm:y∈Jh x p:=(by rw [h];simp);unfold Jh at hm;rcases adi _ _ hm with h1 | h1
   ·cases h1
   ·unfold Ar at h1;obtain ⟨z,hz,rfl⟩:=List.mem_map.1 h1;have h2:=Bq (f:=Host.wt) (List.mem_filter.1 hz).1;have h3:Host.wt z = z.name.size+kL Label.wt z.labels+kL iU.wt z.aT:=rfl;have h4:x.wt = kL Host.wt x.hosts+kL Placed.wt x.au:=rfl;show ((z.name).size:Int)≤_;omega
def okN (x:aU) (nm:ByteArray):Bool:=(placeP x nm).2.2 == 0
def placeNextP (x:aU):aU × ByteArray × ByteArray × Int :=
 if iI x = true then
   (match (GI x.au).find? (okN x) with
   | some nm=>((placeP x nm).1,nm,(placeP x nm).2.1,0)
   | none=>(x,⟨#[]⟩,⟨#[]⟩,if (GI x.au).length = 0 then 7 else 6))
 else (x,⟨#[]⟩,⟨#[]⟩,1)
theorem placeNextP_bad {x:aU} (h:iI x = false):placeNextP x = (x,⟨#[]⟩,⟨#[]⟩,1):=by unfold placeNextP;rw [h];rfl
theorem placeNextP_at {x:aU} (hc:iI x = true) {k:Nat} (hk:k < (GI x.au).length) (hb:∀j (hj:j < (GI x.au).length),j < k→okN x (GI x.au)[j] = false) (h:okN x (GI x.au)[k] = true):placeNextP x = ((placeP x (GI x.au)[k]).1,(GI x.au)[k],(placeP x (GI x.au)[k]).2.1,0):=by
 have e:(GI x.au).find? (okN x) = some (GI x.au)[k]:=List.find?_eq_some_iff_getElem.2 ⟨h,k,hk,rfl,fun j hj=>by rw [hb j O' hj];rfl⟩;unfold placeNextP;rw [if_pos hc,e]
theorem placeNextP_none {x:aU} (hc:iI x = true) (hb:∀j (hj:j < (GI x.au).length),okN x (GI x.au)[j] = false):placeNextP x = (x,⟨#[]⟩,⟨#[]⟩,if (GI x.au).length = 0 then 7 else 6):=by
 have e:(GI x.au).find? (okN x) = none:=List.find?_eq_none.2 fun y hy=>by
  obtain ⟨j,hj,rfl⟩:=List.getElem_of_mem hy;rw [hb j hj];simp
 unfold placeNextP;rw [if_pos hc,e]
theorem wp_region_anyN {P:Program} {l:List Oper} {C:World→Prop} {Q:Exit→Act→World→Prop} {id:Nat} {a:Act} {w:World} (n:Nat) (hm:P.follows .mixedOrders = true) (hn:l.toArray.size = n) (hw:C w.drew)
 (h:adq P l Q C n (Array.replicate n false) a w.drew):(Code.region id l.toArray true).wp P Q a w:=by
 subst hn;exact wp_region_held_drew (S:=C) hm hw fun _=>h
theorem ownNeN {α:Type} [Dat α] {w:World} {B c i:Nat} {u:Value} {x:α} {cs:List Value} {F:List Nat} (h:Own w B x cs F) (hF:∀y∈F,y≠c):Own (w.setCell ⟨c,i,none⟩ u) B x cs F :=
 h.keep (fun y hy=>Below.heap_setCell _ _ _ _ avg) aua
theorem wtL_most {α:Type} {f:α→Nat} {xs:List α} {n b:Nat} (hl:xs.length≤n) (h:∀x∈xs,f x≤b):kL f xs≤n * (b+1):=by
 have key:∀ys:List α,(∀x∈ys,f x≤b)→kL f ys≤ys.length * (b+1):=by
  intro ys;induction ys with
  | nil=>intro _;simp [kL]
  | cons a l ih =>intro hh;have h1:=ih (fun x hx=>hh x (List.mem_cons_of_mem _ hx));have h2:=hh a (List.mem_cons_self ..);unfold kL at *;simp only [List.length_cons,List.map_cons,List.sum_cons,Nat.add_mul,Nat.one_mul] at *;omega
 exact Nat.le_trans (key xs h) (Nat.mul_le_mul_right _ hl)
theorem rowR_mem {α:Type} {ok:α→Bool} {less:α→α→Bool} {most:Int} {xs:List α} (h:adb ok less most xs = true):(xs.length:Int)≤most∧∀x∈xs,ok x = true:=by
 unfold adb at h;rw [Bool.and_eq_true,decide_eq_true_eq] at h;refine ⟨h.1,fun x hx=>?_⟩;obtain ⟨j,hj,rfl⟩:=List.getElem_of_mem hx;have:=List.all_eq_true.1 h.2 j (List.mem_range.2 hj);cases j with
 | zero=>rwa [rowAt_zero hj] at this
 | succ i=>rw [yS hj,Bool.and_eq_true] at this;exact this.1
theorem keyR_size {s:ByteArray} (h:Cm s = true):s.size≤30:=by
 unfold Cm at h;rw [Bool.and_eq_true,decide_eq_true_eq] at h;omega
theorem valR_size {s:ByteArray} (h:AQ s = true):s.size≤20:=by
 unfold AQ at h;simp only [Bool.or_eq_true,Bool.and_eq_true,decide_eq_true_eq] at h;omega
theorem nameR_size {s:ByteArray} (h:Qs s = true):s.size≤20:=by
 unfold Qs at h;exact Zad6
theorem labelsR_wt {xs:List Label} (h:sD xs = true):kL Label.wt xs≤306:=by
 obtain ⟨h1,h2⟩:=rowR_mem h;refine wtL_most (n:=6) (b:=50) O' fun l hl=>?_;have h3:=h2 l hl;unfold zX at h3;rw [Bool.and_eq_true] at h3;have:=keyR_size h3.1;have:=valR_size h3.2;have e:Label.wt l = l.key.size+l.value.size:=rfl;omega
theorem taintsR_wt {xs:List iU} (h:La xs = true):kL iU.wt xs≤204:=by
 obtain ⟨h1,h2⟩:=rowR_mem h;refine wtL_most (n:=4) (b:=50) O' fun l hl=>?_;have h3:=h2 l hl;unfold Dp at h3;rw [Bool.and_eq_true,Bool.and_eq_true] at h3;have:=keyR_size h3.1.1;have:=valR_size h3.1.2;have e:iU.wt l = l.key.size+l.value.size:=rfl;omega
theorem tolsR_wt {xs:List bH} (h:Ya xs = true):kL bH.wt xs≤204:=by
 obtain ⟨h1,h2⟩:=rowR_mem h;refine wtL_most (n:=4) (b:=50) O' fun l hl=>?_;have h3:=h2 l hl;unfold Q5 at h3;simp only [Bool.and_eq_true] at h3;have h4:l.key.size≤30:=by
  have h5:=h3.1.1.1;rw [Bool.or_eq_true,Bool.and_eq_true] at h5;rcases h5 with h5 | h5
  ·exact keyR_size h5
  ·rw [toList_nil.1 h5.1];decide
 have:=valR_size h3.1.1.2;have e:bH.wt l = l.key.size+l.value.size:=rfl;omega
theorem selR_wt {xs:List Need} (h:aeH xs = true):kL Need.wt xs≤460:=by
 obtain ⟨h1,h2⟩:=rowR_mem h;refine wtL_most (n:=4) (b:=114) O' fun l hl=>?_;have h3:=h2 l hl;unfold uh at h3;rw [Bool.and_eq_true,Bool.and_eq_true] at h3;have h4:=keyR_size h3.1.1;have e:Need.wt l = l.key.size+wtS l.values:=rfl;have h5:wtS l.values≤84:=by
  have h6:=h3.2;split at h6
  ·rw [decide_eq_true_eq] at h6;rw [List.eq_nil_of_length_eq_zero h6];decide
  ·rw [Bool.and_eq_true] at h6;obtain ⟨h7,h8⟩:=rowR_mem h6.2;exact wtL_most (n:=4) (b:=20) O' fun v hv=>valR_size (h8 v hv)
 omega
theorem hostR_wt {h:Host} (hr:Aj h = true):h.wt≤530:=by
 unfold Aj at hr;simp only [Bool.and_eq_true] at hr;have h1:=nameR_size hr.1.1.1.1;have h2:=labelsR_wt hr.1.1.1.2;have h3:=taintsR_wt hr.1.1.2;have e:h.wt = h.name.size+kL Label.wt h.labels+kL iU.wt h.aT:=rfl;omega
theorem podR_wt {p:nI} (hr:GU p = true):p.wt≤990:=by
 unfold GU at hr;simp only [Bool.and_eq_true] at hr;have h1:=nameR_size hr.1.1.1.1.1;have h2:=labelsR_wt hr.1.1.1.1.2;have h3:=selR_wt hr.1.1.1.2;have h4:=tolsR_wt hr.1.1.2;have e:p.wt = p.name.size+kL Label.wt p.labels+kL Need.wt p.needs+kL bH.wt p.tolerances:=rfl;omega
theorem good_wt {x:aU} (G:Good x):x.wt≤20000:=by
 have e:x.wt = kL Host.wt x.hosts+kL Placed.wt x.au:=rfl;have h1:=wtL_most (f:=Host.wt) G.h8 (b:=530) fun h hh=>hostR_wt (G.hok h hh);have h2:=wtL_most (f:=Placed.wt) G.p12 (b:=1010) fun p hp=>by
  have h3:=podR_wt (G.pok p hp);have e2:p.wt = p.aS.wt+p.on.size:=rfl;have h4:p.on.size≤20:=by
   rcases G.pon p hp with h5 | ⟨h,hh,h5⟩
   ·rw [h5];decide
   ·rw [← h5];exact nameR_size (hostR_name (G.hok h hh))
  omega
 omega
theorem del_good {x:aU} (G:Good x) (i:Nat):Good ⟨x.hosts,x.au.eraseIdx i,x.next,x.weights⟩ :=
 have hs:(x.au.eraseIdx i).Sublist x.au:=List.eraseIdx_sublist ..
 ⟨G.h8,Nat.le_trans hs.length_le G.p12,G.n1,G.n2,G.wt,G.hok,fun h hh=>(G.hin h hh).sub hs G.pok,G.hs,fun p hp=>G.pok p (hs.subset hp),fun p hp=>G.pseq p (hs.subset hp),fun p hp=>G.pon p (hs.subset hp),G.ps.sublist hs,G.pf.sublist hs⟩
theorem names_ne {xs:List Host} (h:xs.Pairwise fun a b=>dQ a b = true) {i j:Nat} (hi:i < xs.length) (hj:j < xs.length) (hij:i≠j):xs[i].name≠xs[j].name:=by
 exact Zadv
theorem add_good {x:aU} (G:Good x) {n:Host} (hn:Aj n = true) (hno:∀h∈x.hosts,h.name≠n.name) (hl:x.hosts.length < 8):Good ⟨insAt (insIx n.name x.hosts) n x.hosts,x.au,x.next,x.weights⟩:=by
 have hm:∀h,h∈insAt (insIx n.name x.hosts) n x.hosts↔h = n∨h∈x.hosts:=by
  intro h;unfold insAt;rw [List.mem_append,List.mem_cons];have e:h∈x.hosts↔h∈x.hosts.take (insIx n.name x.hosts)∨h∈x.hosts.drop (insIx n.name x.hosts):=by
   rw [← List.mem_append,List.take_append_drop]
  rw [e];constructor
  ·exact Zac5
  ·exact Zac5
 refine ⟨by dsimp only;rw [insAt_len];omega,G.p12,G.n1,G.n2,G.wt,fun h hh=>?_,fun h hh=>?_,?_,G.pok,G.pseq,fun p hp=>?_,G.ps,G.pf⟩
 ·rcases (hm h).1 hh with rfl | hh
  ·exact hn
  ·exact G.hok h hh
 ·rcases (hm h).1 hh with rfl | hh
  ·have e:F7 h.name x.au = []:=by
    unfold F7;rw [List.map_eq_nil_iff,List.filter_eq_nil_iff];intro p hp hon;obtain ⟨h1,h2⟩:=onP_iff.1 hon;rcases G.pon p hp with h3 | ⟨g,hg,h3⟩
    ·exact h1 (h2.symm.trans h3)
    ·exact hno g hg (h3.trans h2)
   have:=hostR_nn hn;unfold Room sumAt;rw [e];simp only [List.map_nil,List.sum_nil,List.length_nil];omega
  ·exact G.hin h hh
 ·show (insAt (insIx n.name x.hosts) n x.hosts).Pairwise fun a b=>dQ a b = true;unfold insAt;have h0:=G.hs;rw [← List.take_append_drop (insIx n.name x.hosts) x.hosts,List.pairwise_append] at h0;have ha:∀a∈x.hosts.take (insIx n.name x.hosts),dQ a n = true:=by
   intro a ha;obtain ⟨i,hi,rfl⟩:=List.mem_take_iff_getElem.1 ha;exact insIx_lt O' O'
  have hb:∀b∈x.hosts.drop (insIx n.name x.hosts),dQ n b = true:=by
   intro b hb;obtain ⟨i,hi,rfl⟩:=List.mem_drop_iff_getElem.1 hb;have h1:dQ n (x.hosts[insIx n.name x.hosts]'O') = true:=by
    have h2:=insIx_at (nm:=n.name) (xs:=x.hosts) O';have h3:=hno _ (List.getElem_mem (l:=x.hosts) (n:=insIx n.name x.hosts) O');unfold nameLt at h2;unfold dQ;cases h4:Op.bytesLess n.name.toList (x.hosts[insIx n.name x.hosts]'O').name.toList with
    | true=>rfl
    | false=>exact absurd (bytes_eq (aoA _ _ h2 h4)) h3
   cases i with
   | zero=>simpa using h1
   | succ i=>exact hostLess_tr _ _ _ h1 (List.pairwise_iff_getElem.1 G.hs _ _ O' O' O')
  exact Zadp
 ·rcases G.pon p hp with h3 | ⟨g,hg,h3⟩
  ·exact .inl h3
  ·exact .inr ⟨g,(hm g).2 (.inr hg),h3⟩
theorem addH_good {x:aU} (G:Good x) (u:Host):Good (addH x u).1:=by
 unfold addH;split
 ·rename_i hc;split
  ·exact G
  ·rename_i hx;split
   ·exact G
   ·rename_i hl;refine add_good G ?_ (fun h hh e=>hx (idxI_nonneg.2 ⟨h,hh,hostatP_iff.2 e⟩)) O';have h2:=hc.2;unfold hostNormalR at h2 ⊢;split
    ·rename_i h3;exact h3.2.2
    ·rename_i h3;rw [if_neg h3] at h2;cases h2
 ·exact G
theorem submit_good {x:aU} (G:Good x) {n:nI} (hn:GU n = true) (hno:∀p∈x.au,p.aS.name≠n.name) (hl:x.au.length < 12) (hx:x.next < 1000000000):Good ⟨x.hosts,insAt (insPx n.name x.au) (newP x n) x.au,x.next+1,x.weights⟩:=by
 have hm:∀h,h∈insAt (insPx n.name x.au) (newP x n) x.au↔h = newP x n∨h∈x.au:=by
  intro h;unfold insAt;rw [List.mem_append,List.mem_cons];have e:h∈x.au↔h∈x.au.take (insPx n.name x.au)∨h∈x.au.drop (insPx n.name x.au):=by
   rw [← List.mem_append,List.take_append_drop]
  rw [e];constructor
  ·exact Zac5
  ·exact Zac5
 have hlt:∀{i:Nat} (hi:i < x.au.length),i < insPx n.name x.au→dw x.au[i] (newP x n) = true:=fun hi h=>insPx_lt h hi;have n1:=G.n1;refine ⟨G.h8,by dsimp only;rw [insAt_len];omega,by dsimp only;omega,by dsimp only;omega,G.wt,G.hok,fun h hh=>?_,G.hs,fun p hp=>?_,fun p hp=>?_,fun p hp=>?_,?_,?_⟩
 ·refine (G.hin h hh).same ?_;show F7 h.name (insAt _ _ _) = _;unfold insAt;rw [onL_app,onL_consN (onP_not (.inl rfl)),← onL_app,List.take_append_drop]
 ·rcases (hm p).1 hp with rfl | hp
  ·exact hn
  ·exact G.pok p hp
 ·rcases (hm p).1 hp with rfl | hp
  ·show 1≤x.next∧x.next≤x.next+1 - 1;omega
  ·have:=G.pseq p hp;show 1≤p.seq∧p.seq≤x.next+1 - 1;omega
 ·rcases (hm p).1 hp with rfl | hp
  ·exact .inl rfl
  ·exact G.pon p hp
 ·show (insAt (insPx n.name x.au) (newP x n) x.au).Pairwise fun a b=>dw a b = true;unfold insAt;have h0:=G.ps;rw [← List.take_append_drop (insPx n.name x.au) x.au,List.pairwise_append] at h0;have ha:∀a∈x.au.take (insPx n.name x.au),dw a (newP x n) = true:=by
   intro a ha;obtain ⟨i,hi,rfl⟩:=List.mem_take_iff_getElem.1 ha;exact hlt O' O'
  have hb:∀b∈x.au.drop (insPx n.name x.au),dw (newP x n) b = true:=by
   intro b hb;obtain ⟨i,hi,rfl⟩:=List.mem_drop_iff_getElem.1 hb;have h1:dw (newP x n) (x.au[insPx n.name x.au]'O') = true:=by
    have h2:=insPx_at (nm:=n.name) (xs:=x.au) O';have h3:=hno _ (List.getElem_mem (l:=x.au) (n:=insPx n.name x.au) O');unfold podLt at h2;unfold dw newP;dsimp only;cases h4:Op.bytesLess n.name.toList (x.au[insPx n.name x.au]'O').aS.name.toList with
    | true=>rfl
    | false=>exact absurd (bytes_eq (aoA _ _ h2 h4)) h3
   cases i with
   | zero=>simpa using h1
   | succ i=>exact placedLess_tr _ _ _ h1 (List.pairwise_iff_getElem.1 G.ps _ _ O' O' O')
  exact Zadp
 ·show (insAt (insPx n.name x.au) (newP x n) x.au).Pairwise fun a b=>a.seq≠b.seq;unfold insAt;have h0:=G.pf;rw [← List.take_append_drop (insPx n.name x.au) x.au,List.pairwise_append] at h0;have hq:∀p∈x.au,p.seq≠x.next:=fun p hp=>by have:=G.pseq p hp;omega
  rw [List.pairwise_append,List.pairwise_cons];refine ⟨h0.1,⟨fun b hb=>(hq b (List.mem_of_mem_drop hb)).symm,h0.2.1⟩,fun a ha' b hb'=>?_⟩;rcases List.mem_cons.1 hb' with rfl | hb'
  ·exact hq a (List.mem_of_mem_take ha')
  ·exact h0.2.2 a ha' b hb'
theorem addQ_good {x:aU} (G:Good x) (u:nI):Good (addQ x u).1:=by
 unfold addQ;split
 ·rename_i hc;split
  ·exact G
  ·rename_i hx;split
   ·exact G
   ·rename_i hl;refine submit_good G ?_ (fun h hh e=>hx (idxI_nonneg.2 ⟨h,hh,podatP_iff.2 e⟩)) O' O';have h2:=hc.2;unfold podNormalR at h2 ⊢;split
    ·rename_i h3;exact h3.2.2.2
    ·rename_i h3;rw [if_neg h3] at h2;cases h2
 ·exact G
end Go.Proofs.YtkjeocdobidadaaGreat
