/- PlacePod, in plain Lean; a cluster's parts. No condition. -/
import Derived.Test.YtnjibbpcafgglaaGreatCopyA
import Derived.Test.YtnjibbpcafgglaaGreatAt
import Derived.Test.YtnjibbpcafgglaaGreatMkAll
import Derived.Test.YtnjibbpcafgglaaGreatRankB
import Derived.Test.YtnjibbpcafgglaaGreatWords0
import Derived.Test.YtnjibbpcafgglaaGreatClusterP
namespace Go.Proofs.YtnjibbpcafgglaaGreat
open Go.ChangeShapes Go.WideShapes Go.ChangeAt Go.RowKit
set_option linter.unusedVariables false
set_option linter.unusedSimpArgs false
theorem Own.joinP {α β:Type} [Dat α] [Dat β] {w:World} {B:Nat} {x:α} {y:β} {c1 c2:List Value} {F1 F2:List Nat} (h1:Own w B x c1 F1) (h2:Own w B y c2 F2) (hd:∀b∈F1,b∉F2):Own w B (x,y) (c1++c2) (F1++F2):=by
 refine ⟨⟨c1,c2,F1,F2,rfl,rfl,h1.rd,h2.rd⟩,?_,?_,?_⟩
 ·rw [List.nodup_append]
  exact ⟨h1.nodup,h2.nodup,fun a ha b hb e=>hd a ha (e ▸ hb)⟩
 ·intro b hb
  rcases List.mem_append.1 hb with hb | hb
  ·exact h1.base b hb
  ·exact h2.base b hb
 ·intro b hb
  rcases List.mem_append.1 hb with hb | hb
  ·exact h1.plain b hb
  ·exact h2.plain b hb
theorem Own.partsP {w:World} {B:Nat} {x:aU} {Ah Ap:Option Addr} {nh ch np cp:Nat} {n p q f:Int} {G:List Nat} (h:Own w B x [.slice Ah nh ch,.slice Ap np cp,.int .i64 n,.int .i64 p,.int .i64 q,.int .i64 f] G) :
 ∃Gh Gp,Own w B x.hosts [.slice Ah nh ch] Gh∧Own w B x.au [.slice Ap np cp] Gp∧(∀y∈Gh,y∉Gp)∧(∀y∈Gh,y∈G)∧(∀y∈Gp,y∈G):=by
 obtain ⟨⟨c1,c2,F1,F2,e1,rfl,hh,d1,d2,G1,G2,e3,rfl,hp,g1,g2,H1,H2,e5,e6,⟨e7,e8,hn⟩,hwt⟩,hnd,hb,hpl⟩:=h
 obtain ⟨A,c,rfl,_⟩:=jB hh
 obtain ⟨A2,c2',rfl,_⟩:=jB hp
 subst e7 e5 e3
 simp only [List.cons_append,List.nil_append,List.cons.injEq] at e1
 obtain ⟨ea,eb,_⟩:=e1
 rw [List.nodup_append,List.nodup_append] at hnd
 refine ⟨F1,G1,⟨by rw [ea];exact hh,hnd.1,fun y hy=>hb y (by simp [hy]),fun y hy=>hpl y (by simp [hy])⟩,⟨by rw [eb];exact hp,hnd.2.1.1,fun y hy=>hb y (by simp [hy]),fun y hy=>hpl y (by simp [hy])⟩,fun y hy hy'=>hnd.2.2 y hy y (by simp [hy']) rfl,fun y hy=>by simp [hy],fun y hy=>by simp [hy]⟩
theorem Own.wholeP {w:World} {B:Nat} {H:List Host} {Q:List Placed} {Ah Ap:Option Addr} {nh ch np cp:Nat} {n p q f:Int} {Gh Gp:List Nat} (h:Own w B H [.slice Ah nh ch] Gh) (k:Own w B Q [.slice Ap np cp] Gp) (hd:∀y∈Gh,y∉Gp) (hn:I64 n) (hp:I64 p) (hq:I64 q) (hf:I64 f) :
 Own w B (⟨H,Q,n,⟨p,q,f⟩⟩:aU) [.slice Ah nh ch,.slice Ap np cp,.int .i64 n,.int .i64 p,.int .i64 q,.int .i64 f] (Gh++Gp):=by
 refine Own.up (B':=B) (fun x:aU=>(x.hosts,x.au,x.next,x.weights)) ?_ (Nat.le_refl _)
 have h5:Own w B (⟨p,q,f⟩:rZ) ([.int .i64 p]++([.int .i64 q]++[.int .i64 f])) []:=by
  refine Own.up (B':=B) (fun x:rZ=>(x.pack,x.spread,x.soft)) ?_ (Nat.le_refl _)
  exact Own.cons (jL w p hp) (Own.cons (jL w q hq) (Own.flat (jL w f hf)))
 have h6:=Own.cons (jL w n hn) h5
 have h7:=Own.joinP h (Own.joinP k h6 (fun b _ hb=>by cases hb)) (fun b hb hb'=>hd b hb (by simpa using hb'))
 simpa using h7
theorem Own.onP {w:World} {B:Nat} {p:Placed} {ck:List Value} {F:List Nat} (h:Own w B p ck F) (s:ByteArray) (hs:s.size≤maxLen):Own w B (⟨p.aS,s,p.seq⟩:Placed) (ck.set 7 (.string s)) F:=by
 obtain ⟨⟨c1,c2,F1,F2,rfl,rfl,QS,c3,c4,F3,F4,rfl,rfl,⟨rfl,rfl,hon⟩,⟨rfl,rfl,Ue⟩⟩,hnd,hb,hpl⟩:=h
 have hl:c1.length = 7:=Dat.len QS
 have e:(c1++([Value.string p.on]++[Value.int .i64 p.seq])).set 7 (.string s) = c1++([.string s]++[.int .i64 p.seq]):=by
  rw [List.set_append_right _ _ (by omega),hl];rfl
 rw [e]
 exact ⟨⟨c1,_,F1,_,rfl,rfl,QS,_,_,_,_,rfl,rfl,⟨rfl,rfl,hs⟩,⟨rfl,rfl,Ue⟩⟩,hnd,hb,hpl⟩
def placeQ (x:aU) (k:Nat) (q:Placed):aU × ByteArray × Int :=
 if q.on.size = 0 then (if afg x q.aS = true then (⟨x.hosts,x.au.set k ⟨q.aS,aff x q.aS,q.seq⟩,x.next,x.weights⟩,aff x q.aS,0) else (x,⟨#[]⟩,6)) else (x,⟨#[]⟩,5)
def placeP (x:aU) (nm:ByteArray):aU × ByteArray × Int :=
 if iI x = true then (match x.au[(pK (CG nm) x.au).toNat]? with
   | some q=>if pK (CG nm) x.au < 0 then (x,⟨#[]⟩,3) else placeQ x (pK (CG nm) x.au).toNat q
   | none=>(x,⟨#[]⟩,3))
 else (x,⟨#[]⟩,1)
theorem placeP_bad {x:aU} {nm:ByteArray} (h:iI x = false):placeP x nm = (x,⟨#[]⟩,1):=by unfold placeP;rw [h];rfl
theorem placeP_none {x:aU} {nm:ByteArray} (h:iI x = true) (hn:pK (CG nm) x.au < 0):placeP x nm = (x,⟨#[]⟩,3):=by
 unfold placeP
 rw [if_pos h]
 split
 ·exact if_pos hn
 ·rfl
theorem placeP_at {x:aU} {nm:ByteArray} {k:Nat} (h:iI x = true) (hk0:pK (CG nm) x.au = k) (hk:k < x.au.length):placeP x nm = placeQ x k x.au[k]:=by
 unfold placeP
 rw [if_pos h,hk0,Int.toNat_natCast,List.getElem?_eq_getElem hk]
 exact if_neg (by omega)
theorem bestS_le (x:aU) (p:nI) (hw:(x.wt:Int)≤1048576):((aff x p).size:Int)≤1048576:=by
 unfold aff
 cases h:Jh x p with
 | nil=>exact (by decide:((⟨#[]⟩:ByteArray).size:Int)≤1048576)
 | cons y l =>
   have hm:y∈Jh x p:=by rw [h];simp
   unfold Jh at hm
   rcases adi _ _ hm with h1 | h1
   ·cases h1
   ·unfold Ar at h1
    obtain ⟨z,hz,rfl⟩:=List.mem_map.1 h1
    have h2:=Bq (f:=Host.wt) (List.mem_filter.1 hz).1
    have h3:Host.wt z = z.name.size+kL Label.wt z.labels+kL iU.wt z.aT:=rfl
    have h4:x.wt = kL Host.wt x.hosts+kL Placed.wt x.au:=rfl
    show ((z.name).size:Int)≤_
    omega
end Go.Proofs.YtnjibbpcafgglaaGreat
