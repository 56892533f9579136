/- AddHost in plain Lean. No condition. -/
import Derived.Test.YthjdahommnnliaaGreatSortTaintsP
import Derived.Test.YthjdahommnnliaaGreatInsO
import Derived.Test.YthjdahommnnliaaGreatAt
import Derived.Test.YthjdahommnnliaaGreatLaySFTaint
import Derived.Test.YthjdahommnnliaaGreatLaw0
import Derived.Test.YthjdahommnnliaaGreatMwTaint
namespace Go.Proofs.YthjdahommnnliaaGreat
open Go.ChangeShapes Go.WideShapes Go.ChangeAt Go.RowKit
set_option linter.unusedVariables false
set_option linter.unusedSimpArgs false
theorem Own.joinA {α β:Type} [Dat α] [Dat β] {w:World} {B:Nat} {x:α} {y:β} {c1 c2:List Value} {F1 F2:List Nat} (h1:Own w B x c1 F1) (h2:Own w B y c2 F2) (hd:∀b∈F1,b∉F2):Own w B (x,y) (c1++c2) (F1++F2):=by
 refine ⟨⟨c1,c2,F1,F2,rfl,rfl,h1.rd,h2.rd⟩,?_,?_,?_⟩
 ·rw [List.nodup_append]
  exact ⟨h1.nodup,h2.nodup,fun a ha b hb e=>hd a ha (e ▸ hb)⟩
 ·intro b hb
  rcases List.mem_append.1 hb with hb | hb
  ·exact h1.base b hb
  ·exact h2.base b hb
 ·intro b hb
  rcases List.mem_append.1 hb with hb | hb
  ·exact h1.plain b hb
  ·exact h2.plain b hb
theorem Own.partsA {w:World} {B:Nat} {x:aU} {Ah Ap:Option Addr} {nh ch np cp:Nat} {n p q f:Int} {G:List Nat} (h:Own w B x [.slice Ah nh ch,.slice Ap np cp,.int .i64 n,.int .i64 p,.int .i64 q,.int .i64 f] G) :
 ∃Gh Gp,Own w B x.hosts [.slice Ah nh ch] Gh∧Own w B x.au [.slice Ap np cp] Gp∧(∀y∈Gh,y∉Gp)∧(∀y∈Gh,y∈G)∧(∀y∈Gp,y∈G):=by
 obtain ⟨⟨c1,c2,F1,F2,e1,rfl,hh,d1,d2,G1,G2,e3,rfl,hp,g1,g2,H1,H2,e5,e6,⟨e7,e8,hn⟩,hwt⟩,hnd,hb,hpl⟩:=h
 obtain ⟨A,c,rfl,_⟩:=jB hh
 obtain ⟨A2,c2',rfl,_⟩:=jB hp
 subst e7 e5 e3
 simp only [List.cons_append,List.nil_append,List.cons.injEq] at e1
 obtain ⟨ea,eb,_⟩:=e1
 rw [List.nodup_append,List.nodup_append] at hnd
 refine ⟨F1,G1,⟨by rw [ea];exact hh,hnd.1,fun y hy=>hb y (by simp [hy]),fun y hy=>hpl y (by simp [hy])⟩,⟨by rw [eb];exact hp,hnd.2.1.1,fun y hy=>hb y (by simp [hy]),fun y hy=>hpl y (by simp [hy])⟩,fun y hy hy'=>hnd.2.2 y hy y (by simp [hy']) rfl,fun y hy=>by simp [hy],fun y hy=>by simp [hy]⟩
theorem Own.wholeA {w:World} {B:Nat} {H:List Host} {Q:List Placed} {Ah Ap:Option Addr} {nh ch np cp:Nat} {n p q f:Int} {Gh Gp:List Nat} (h:Own w B H [.slice Ah nh ch] Gh) (k:Own w B Q [.slice Ap np cp] Gp) (hd:∀y∈Gh,y∉Gp) (hn:I64 n) (hp:I64 p) (hq:I64 q) (hf:I64 f) :
 Own w B (⟨H,Q,n,⟨p,q,f⟩⟩:aU) [.slice Ah nh ch,.slice Ap np cp,.int .i64 n,.int .i64 p,.int .i64 q,.int .i64 f] (Gh++Gp):=by
 refine Own.up (B':=B) (fun x:aU=>(x.hosts,x.au,x.next,x.weights)) ?_ (Nat.le_refl _)
 have h5:Own w B (⟨p,q,f⟩:rZ) ([.int .i64 p]++([.int .i64 q]++[.int .i64 f])) []:=by
  refine Own.up (B':=B) (fun x:rZ=>(x.pack,x.spread,x.soft)) ?_ (Nat.le_refl _)
  exact Own.cons (jL w p hp) (Own.cons (jL w q hq) (Own.flat (jL w f hf)))
 have h6:=Own.cons (jL w n hn) h5
 have h7:=Own.joinA h (Own.joinA k h6 (fun b _ hb=>by cases hb)) (fun b hb hb'=>hd b hb (by simpa using hb'))
 simpa using h7
def nameLt (nm:ByteArray) (h:Host):Bool:=Op.bytesLess h.name.toList nm.toList
def insIx (nm:ByteArray) (xs:List Host):Nat:=(xs.takeWhile (nameLt nm)).length
theorem insIx_le (nm:ByteArray) (xs:List Host):insIx nm xs≤xs.length:=by
 unfold insIx
 induction xs with
 | nil=>simp
 | cons a l ih=>rw [List.takeWhile_cons];split <;> simp <;> omega
theorem insIx_lt {nm:ByteArray} : ∀{xs:List Host} {k:Nat},k < insIx nm xs→∀(hk:k < xs.length),nameLt nm xs[k] = true
 | [],_,h,hk=>absurd hk (by simp)
 | a :: l,0,h,hk=>by
   unfold insIx at h
   rw [List.takeWhile_cons] at h
   split at h
   ·rename_i h2;simpa using h2
   ·simp at h
 | a :: l,k+1,h,hk=>by
   unfold insIx at h
   rw [List.takeWhile_cons] at h
   split at h
   ·simp only [List.getElem_cons_succ]
    exact insIx_lt (xs:=l) (by unfold insIx;simpa using h) (by simpa using hk)
   ·simp at h
theorem insIx_at {nm:ByteArray} : ∀{xs:List Host} (hk:insIx nm xs < xs.length),nameLt nm xs[insIx nm xs] = false
 | [],hk=>absurd hk (by simp)
 | a :: l,hk=>by
   by_cases h:nameLt nm a = true
   ·have e:insIx nm (a :: l) = insIx nm l+1:=by unfold insIx;rw [List.takeWhile_cons,if_pos h];rfl
    have:=insIx_at (nm:=nm) (xs:=l) (by rw [e] at hk;simpa using hk)
    simp only [e,List.getElem_cons_succ]
    exact this
   ·have e:insIx nm (a :: l) = 0:=by unfold insIx;rw [List.takeWhile_cons,if_neg h];rfl
    simp only [e,List.getElem_cons_zero]
    simpa using h
theorem insIx_of {nm:ByteArray} {xs:List Host} {k:Nat} (h1:k≤insIx nm xs) (h2:∀hk:k < xs.length,nameLt nm xs[k] = false):k = insIx nm xs:=by
 have:=insIx_le nm xs
 by_cases h:k < insIx nm xs
 ·have h3:=insIx_lt h (by omega)
  rw [h2 (by omega)] at h3;cases h3
 ·omega
theorem wp_append0 {P:Program} {t e:TypeId} {z:Value} {size bytes:Nat} (hE:DL P t e z size bytes) {o:Oper} {a:Act} {K:Act→World→Prop} {Q:Exit→Act→World→Prop} (s x:Operand)
 (ho:o.op = .call { callee:=.builtin .append,args:=#[s,x],argTypes:=#[t,t] })
 (w:World) (base:Nat) (v:Value) (n:Nat) (xs:List Value) (hown:w.ownsRow base e size v n xs) (hs:a.eval s = v) (c:Nat) (hx:a.eval x = .slice none 0 c)
 (h:∀v' w',w'.ownsRow base e size v' (n+0) (xs++[])→w.grownBy w' v.ownBlock→(v'.ownBlock = v.ownBlock∨v'.ownBlock = some w.heap.size)→K (a.put o.dst v') w'):o.wp P a w K Q:=by
 obtain ⟨ht,hi0,hzs,hsz⟩:=hE
 obtain ⟨i,hi,hz,hsize,hb⟩:=info_parts hi0
 have fin:∀(A2:Option Addr) (cap:Nat),v = .slice A2 n cap→n≤cap→o.wp P a w K Q:=by
  intro A2 cap hv hle
  have hr:=run_append_nothing (P:=P) w t t o.type e i ht hi A2 n cap hle (.slice none 0 c) (Src.ofNil w ht c)
  unfold Oper.wp execOp
  simp only [ho,resolve,invoke,builtin,Sem.run_bind,Sem.run_pure,Result.andThen_ok,List.map_toArray,List.map_cons,List.map_nil,hs,hv,hx,hr]
  subst hv
  exact h _ w (by simpa using hown) ⟨rfl,rfl,rfl,Nat.le_refl _,fun _ _ _=>rfl⟩ (.inl rfl)
 rcases hown.2 with ⟨hv,hn0⟩ | ⟨g,cap,cur,hv,_,_,hle,_⟩
 ·exact fin none 0 (by rw [hv,hn0]) (by omega)
 ·exact fin _ cap hv hle
theorem wpList_append0 {P:Program} {t e:TypeId} {z:Value} {size bytes:Nat} (hE:DL P t e z size bytes) {ops:Array Oper} {rest:List Oper} {o:Oper} {a:Act} {Q:Exit→Act→World→Prop} (hgd:o.guard = none) (s x:Operand)
 (ho:o.op = .call { callee:=.builtin .append,args:=#[s,x],argTypes:=#[t,t] })
 (w:World) (base:Nat) (v:Value) (n:Nat) (xs:List Value) (hown:w.ownsRow base e size v n xs) (hs:a.eval s = v) (c:Nat) (hx:a.eval x = .slice none 0 c)
 (h:∀v' w',w'.ownsRow base e size v' (n+0) (xs++[])→w.grownBy w' v.ownBlock→(v'.ownBlock = v.ownBlock∨v'.ownBlock = some w.heap.size)→wpList P ops Q rest (a.put o.dst v') w'):wpList P ops Q (o :: rest) a w :=
 wpList_plain hgd fun K hK=>wp_append0 hE s x ho w base v n xs hown hs c hx fun v' w' h1 h2 h3=>hK _ _ (h v' w' h1 h2 h3)
theorem ownNeA {α:Type} [Dat α] {w:World} {B c i:Nat} {u:Value} {x:α} {cs:List Value} {F:List Nat} (h:Own w B x cs F) (hF:∀y∈F,y≠c):Own (w.setCell ⟨c,i,none⟩ u) B x cs F :=
 h.keep (fun y hy=>Below.heap_setCell _ _ _ _ avg) aua
def addH (x:aU) (u:Host):aU × Int :=
 if iI x = true∧(hostNormalR u).2 = true then (if 0≤pK (iM (hostNormalR u).1.name) x.hosts then (x,2) else if 8≤x.hosts.length then (x,4) else (⟨insAt (insIx (hostNormalR u).1.name x.hosts) (hostNormalR u).1 x.hosts,x.au,x.next,x.weights⟩,0)) else (x,1)
theorem cntL_insAt {α:Type} {cnt:α→Nat} (i:Nat) (x:α) (xs:List α):cO cnt (insAt i x xs) = cO cnt xs+cnt x:=by
 have:=XP (cnt:=cnt) (xs.take i) (xs.drop i)
 rw [List.take_append_drop] at this
 unfold insAt
 rw [XP,cO]
 omega
theorem addH_cnt (x:aU) (u:Host):iw (addH x u).1≤iw x+lI (hostNormalR u).1:=by
 unfold addH
 split
 ·split
  ·exact Nat.le_add_right _ _
  ·split
   ·exact Nat.le_add_right _ _
   ·have h1:=cntL_insAt (cnt:=lI) (insIx (hostNormalR u).1.name x.hosts) (hostNormalR u).1 x.hosts
    simp only [iw] at h1 ⊢
    omega
 ·exact Nat.le_add_right _ _
end Go.Proofs.YthjdahommnnliaaGreat
