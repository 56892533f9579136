/- What an insertion into a cluster needs, in plain Lean. No condition. -/
import Derived.Test.YtdegaofigemegaaGreatClusterIC
import Derived.Test.YtdegaofigemegaaGreatSortNeedsS
namespace Go.Proofs.YtdegaofigemegaaGreat
open Go.ChangeShapes Go.WideShapes Go.ChangeAt Go.RowKit
set_option linter.unusedVariables false
set_option linter.unusedSimpArgs false
set_option maxHeartbeats 2000000
set_option maxRecDepth 100000
theorem ai.Vc {α β:Type} [ax α] [ax β] {w:World} {B:Nat} {x:α} {y:β} {c1 c2:List Value} {F1 F2:List Nat} (h1:ai w B x c1 F1) (h2:ai w B y c2 F2) (hd:∀b∈F1,b∉F2):ai w B (x,y) (c1++c2) (F1++F2):=by
 exact Ds
theorem ai.R5 {w:World} {B:Nat} {x:aU} {Ah Ap:Option Addr} {nh ch np cp:Nat} {n p q f:Int} {G:List Nat} (h:ai w B x [.slice Ah nh ch,.slice Ap np cp,.int .i64 n,.int .i64 p,.int .i64 q,.int .i64 f] G) :
 ∃Gh Gp,ai w B x.O [.slice Ah nh ch] Gh/\ai w B x.M [.slice Ap np cp] Gp/\(∀y∈Gh,y∉Gp)/\(∀y∈Gh,y∈G)/\(∀y∈Gp,y∈G):=by
 obtain ⟨⟨c1,c2,F1,F2,e1,rfl,hh,d1,d2,G1,G2,e3,rfl,hp,g1,g2,H1,H2,e5,e6,⟨e7,e8,hn⟩,ie⟩,hnd,hb,eH⟩:=h;obtain ⟨A,c,rfl,_⟩:=jB hh;obtain ⟨A2,c2',rfl,_⟩:=jB hp;subst e7 e5 e3;simp only [List.cons_append,List.nil_append,List.cons.injEq] at e1;obtain ⟨ea,eb,_⟩:=e1;rw [List.nodup_append,List.nodup_append] at hnd;refine ⟨F1,G1,⟨by rw [ea];exact hh,hnd.1,λy hy=>hb y (by simp [hy]),λy hy=>eH y (by simp [hy])⟩,⟨by rw [eb];exact hp,hnd.2.1.1,λy hy=>hb y (by simp [hy]),λy hy=>eH y (by simp [hy])⟩,λy hy eI=>hnd.2.2 y hy y (by simp [eI]) rfl,λy hy=>by simp [hy],λy hy=>by simp [hy]⟩
theorem ai.Hz {w:World} {B:Nat} {H:List ba} {Q:List ag} {Ah Ap:Option Addr} {nh ch np cp:Nat} {n p q f:Int} {Gh Gp:List Nat} (h:ai w B H [.slice Ah nh ch] Gh) (k:ai w B Q [.slice Ap np cp] Gp) (hd:∀y∈Gh,y∉Gp) (hn:bt n) (hp:bt p) (hq:bt q) (hf:bt f) :
 ai w B (⟨H,Q,n,⟨p,q,f⟩⟩:aU) [.slice Ah nh ch,.slice Ap np cp,.int .i64 n,.int .i64 p,.int .i64 q,.int .i64 f] (Gh++Gp):=by
 refine ai.up (B':=B) (λx:aU=>(x.O,x.M,x.next,x.weights)) ?_ (Nat.le_refl _);have h5:ai w B (⟨p,q,f⟩:rZ) ([.int .i64 p]++([.int .i64 q]++[.int .i64 f])) []:=by exact DG
 have h6:=ai.cons (jL w n hn) h5;have h7:=ai.Vc h (ai.Vc k h6 (λb _ hb=>by cases hb)) (λb hb dP=>hd b hb (by simpa using dP));simpa using h7
theorem EV {P:Program} {t e:TypeId} {z:Value} {size bytes:Nat} (hE:DL P t e z size bytes) {o:Oper} {a:Act} {K:Act->World->Prop} {Q:Exit->Act->World->Prop} (s x:Operand)
 (ho:o.op = .call { callee:=.builtin .append,args:=#[s,x],argTypes:=#[t,t] })
 (w:World) (base:Nat) (v:Value) (n:Nat) (xs:List Value) (aw:w.ownsRow base e size v n xs) (hs:a.eval s = v) (c:Nat) (hx:a.eval x = .slice none 0 c)
 (h:∀v' w',w'.ownsRow base e size v' (n+0) (xs++[])->w.grownBy w' v.ownBlock->(v'.ownBlock = v.ownBlock∨v'.ownBlock = some w.heap.size)->K (a.put o.dst v') w'):o.wp P a w K Q:=by
 obtain ⟨ht,gw,gP,d9⟩:=hE;obtain ⟨i,hi,hz,hsize,hb⟩:=info_parts gw;have fin:∀(A2:Option Addr) (cap:Nat),v = .slice A2 n cap->n<=cap->o.wp P a w K Q:=by intro A2 cap hv eW;have hr:=run_append_nothing (P:=P) w t t o.type e i ht hi A2 n cap eW (.slice none 0 c) (Src.ofNil w ht c);unfold Oper.wp execOp;simp only [ho,resolve,invoke,builtin,Sem.run_bind,Sem.run_pure,Result.andThen_ok,List.map_toArray,List.map_cons,List.map_nil,hs,hv,hx,hr];subst hv;exact h _ w (by simpa using aw) ⟨rfl,rfl,rfl,Nat.le_refl _,λ_ _ _=>rfl⟩ (.inl rfl)
 rcases aw.2 with ⟨hv,hn0⟩ | ⟨g,cap,cj,hv,_,_,eW,_⟩
 ·exact fin none 0 (by rw [hv,hn0]) J
 ·exact fin _ cap hv eW
theorem aJS {P:Program} {t e:TypeId} {z:Value} {size bytes:Nat} (hE:DL P t e z size bytes) {ops:Array Oper} {rest:List Oper} {o:Oper} {a:Act} {Q:Exit->Act->World->Prop} (xp:o.guard = none) (s x:Operand)
 (ho:o.op = .call { callee:=.builtin .append,args:=#[s,x],argTypes:=#[t,t] })
 (w:World) (base:Nat) (v:Value) (n:Nat) (xs:List Value) (aw:w.ownsRow base e size v n xs) (hs:a.eval s = v) (c:Nat) (hx:a.eval x = .slice none 0 c)
 (h:∀v' w',w'.ownsRow base e size v' (n+0) (xs++[])->w.grownBy w' v.ownBlock->(v'.ownBlock = v.ownBlock∨v'.ownBlock = some w.heap.size)->wpList P ops Q rest (a.put o.dst v') w'):wpList P ops Q (o :: rest) a w :=
 wpList_plain xp λK hK=>EV hE s x ho w base v n xs aw hs c hx λv' w' h1 h2 h3=>hK _ _ (h v' w' h1 h2 h3)
theorem ax7 {α:Type} [ax α] {w:World} {B c i:Nat} {u:Value} {x:α} {cs:List Value} {F:List Nat} (h:ai w B x cs F) (hF:∀y∈F,y≠c):ai (w.setCell ⟨c,i,none⟩ u) B x cs F :=
 h.keep (λy hy=>Below.heap_setCell _ _ _ _ EG) fw
def mO (x:ba):ba:=⟨x.name,(BG x.labels).1,x.aq,x.mem,x.slots,(Fq x.aT).1⟩
def bf (x:ba):ba × Bool:=if (BG x.labels).2 = true/\(Fq x.aT).2 = true/\Aj (mO x) = true then (mO x,true) else (x,false)
theorem aCl (x:ba):(mO x).wt<=x.wt:=by
 have h1:=aJZ x.labels;have h2:=azM x.aT;unfold mO ba.wt;dsimp only;omega
def mR (x:nI):nI:=⟨x.name,(BG x.labels).1,x.aq,x.mem,x.av,(jA x.af).1,(jK x.ae).1⟩
def jf (x:nI):nI × Bool:=if (BG x.labels).2 = true/\(jA x.af).2 = true/\(jK x.ae).2 = true/\GU (mR x) = true then (mR x,true) else (x,false)
theorem aDX (x:nI):(mR x).wt<=x.wt:=by
 have h1:=aJZ x.labels;have h2:=aAu x.af;have h3:=aBz x.ae;unfold mR nI.wt;dsimp only;omega
theorem qL (x:aU) (cs:List Value) (F:List Nat) (w:World) (h:rd w x cs F) (hw:(x.wt:Int)<=1048576) :
 Calls Tryz.prog 15 #[.agg cs.toArray] w λe w'=>e = .returned (.bool (iI x))/\Below w.heap.size w w':=by
 have i':x.wt = kL ba.wt x.O+kL ag.wt x.M:=rfl;have bE:(x.O.length:Int)<=1048576:=by have:=gJ ba.wt x.O;omega
 have vk:(x.M.length:Int)<=1048576:=by have:=gJ ag.wt x.M;omega
 refine aeh x cs F w h bE vk (λy hy=>?_) (λy hy=>?_)
 ·exact MR
 ·exact Mh
theorem qM (x:aU) (cs:List Value) (F:List Nat) (w:World) (h:rd w x cs F) (hw:(x.wt:Int)<=1048576) :
 Calls Tryz.prog 54 #[.agg cs.toArray] w λe w'=>e = .returned (.bool (iI x))/\Below w.heap.size w w':=by
 have i':x.wt = kL ba.wt x.O+kL ag.wt x.M:=rfl;have bE:(x.O.length:Int)<=1048576:=by have:=gJ ba.wt x.O;omega
 have vk:(x.M.length:Int)<=1048576:=by have:=gJ ag.wt x.M;omega
 refine Dx x cs F w h bE vk (λy hy=>?_) (λy hy=>?_)
 ·exact MR
 ·exact Mh
def Bm (nm:ByteArray) (h:ba):Bool:=Op.bytesLess h.name.toList nm.toList
def fS (nm:ByteArray) (xs:List ba):Nat:=(xs.takeWhile (Bm nm)).length
theorem Iw (nm:ByteArray) (xs:List ba):fS nm xs<=xs.length:=by
 unfold fS;induction xs with
 | nil=>simp
 | cons a l ih=>rw [List.takeWhile_cons];split <;> simp <;> omega
theorem Vd {nm:ByteArray} : ∀{xs:List ba} {k:Nat},k < fS nm xs->∀(hk:k < xs.length),Bm nm xs[k] = true
 | [],_,h,hk=>absurd hk S'
 | a :: l,0,h,hk=>by
   unfold fS at h;rw [List.takeWhile_cons] at h;split at h
   ·rename_i h2;simpa using h2
   ·simp at h
 | a :: l,k+1,h,hk=>by
   unfold fS at h;rw [List.takeWhile_cons] at h;split at h
   ·simp only [List.getElem_cons_succ];exact Vd (xs:=l) (by unfold fS;simpa using h) Ih
   ·simp at h
theorem TS {nm:ByteArray} : ∀{xs:List ba} (hk:fS nm xs < xs.length),Bm nm xs[fS nm xs] = false
 | [],hk=>absurd hk S'
 | a :: l,hk=>by
   by_cases h:Bm nm a = true
   ·have e:fS nm (a :: l) = fS nm l+1:=(by unfold fS;rw [List.takeWhile_cons,if_pos h];rfl);have:=TS (nm:=nm) (xs:=l) (by rw [e] at hk;simpa using hk);simp only [e,List.getElem_cons_succ];exact this
   ·have e:fS nm (a :: l) = 0:=(by unfold fS;rw [List.takeWhile_cons,if_neg h];rfl);simp only [e,List.getElem_cons_zero];simpa using h
theorem N9 {nm:ByteArray} {xs:List ba} {k:Nat} (h1:k<=fS nm xs) (h2:∀hk:k < xs.length,Bm nm xs[k] = false):k = fS nm xs:=by
 have:=Iw nm xs;by_cases h:k < fS nm xs
 ·have h3:=Vd h J;rw [h2 J] at h3;cases h3
 ·omega
def f' (x:aU) (u:ba):aU × Int :=
 if iI x = true/\(bf u).2 = true then (if 0<=pK (iM (bf u).1.name) x.O then (x,2) else if 8<=x.O.length then (x,4) else (⟨eV (fS (bf u).1.name x.O) (bf u).1 x.O,x.M,x.next,x.weights⟩,0)) else (x,1)
def Bs (nm:ByteArray) (h:ag):Bool:=Op.bytesLess h.aS.name.toList nm.toList
def fh (nm:ByteArray) (xs:List ag):Nat:=(xs.takeWhile (Bs nm)).length
theorem IA (nm:ByteArray) (xs:List ag):fh nm xs<=xs.length:=by
 unfold fh;induction xs with
 | nil=>simp
 | cons a l ih=>rw [List.takeWhile_cons];split <;> simp <;> omega
theorem We {nm:ByteArray} : ∀{xs:List ag} {k:Nat},k < fh nm xs->∀(hk:k < xs.length),Bs nm xs[k] = true
 | [],_,h,hk=>absurd hk S'
 | a :: l,0,h,hk=>by
   unfold fh at h;rw [List.takeWhile_cons] at h;split at h
   ·rename_i h2;simpa using h2
   ·simp at h
 | a :: l,k+1,h,hk=>by
   unfold fh at h;rw [List.takeWhile_cons] at h;split at h
   ·simp only [List.getElem_cons_succ];exact We (xs:=l) (by unfold fh;simpa using h) Ih
   ·simp at h
theorem TU {nm:ByteArray} : ∀{xs:List ag} (hk:fh nm xs < xs.length),Bs nm xs[fh nm xs] = false
 | [],hk=>absurd hk S'
 | a :: l,hk=>by
   by_cases h:Bs nm a = true
   ·have e:fh nm (a :: l) = fh nm l+1:=(by unfold fh;rw [List.takeWhile_cons,if_pos h];rfl);have:=TU (nm:=nm) (xs:=l) (by rw [e] at hk;simpa using hk);simp only [e,List.getElem_cons_succ];exact this
   ·have e:fh nm (a :: l) = 0:=(by unfold fh;rw [List.takeWhile_cons,if_neg h];rfl);simp only [e,List.getElem_cons_zero];simpa using h
theorem OY {nm:ByteArray} {xs:List ag} {k:Nat} (h1:k<=fh nm xs) (h2:∀hk:k < xs.length,Bs nm xs[k] = false):k = fh nm xs:=by
 have:=IA nm xs;by_cases h:k < fh nm xs
 ·have h3:=We h J;rw [h2 J] at h3;cases h3
 ·omega
def dd (x:aU) (n:nI):ag:=⟨n,⟨#[]⟩,x.next⟩
theorem aAf {x:aU} (h:iI x = true):1<=x.next/\x.next<=1000000000:=by
 unfold iI Em at h;simp only [Bool.and_eq_true,decide_eq_true_eq] at h;exact h.1.2.2.1
def ff (x:aU) (u:nI):aU × Int :=
 if iI x = true/\(jf u).2 = true then (if 0<=pK (CG (jf u).1.name) x.M then (x,2) else if 12<=x.M.length∨1000000000<=x.next then (x,4) else (⟨x.O,eV (fh (jf u).1.name x.M) (dd x (jf u).1) x.M,x.next+1,x.weights⟩,0)) else (x,1)
theorem ai.dd {w:World} {B:Nat} {x:aU} {n:nI} {cs:List Value} {G:List Nat} (h:ai w B n cs G) (hn:bt x.next):ai w B (dd x n) (cs++[.string ⟨#[]⟩,.int .i64 x.next]) G:=by
 have h5:ai w B ((⟨#[]⟩:ByteArray),x.next) ([.string ⟨#[]⟩]++[.int .i64 x.next]) []:=ai.cons (rdStr w ⟨#[]⟩ (rV (Nat.zero_le _))) (ai.flat (jL w x.next hn));have h6:=ai.Vc h h5 (λ_ _ hb=>by cases hb);rw [List.append_nil] at h6;exact ai.up (B':=B) (λx:ag=>(x.aS,x.on,x.seq)) h6 (Nat.le_refl _)
theorem BB {α:Type} {f:α->Nat} {xs:List α} {n b:Nat} (hl:xs.length<=n) (h:∀x∈xs,f x<=b):kL f xs<=n * (b+1):=by
 have key:∀ys:List α,(∀x∈ys,f x<=b)->kL f ys<=ys.length * (b+1):=by
  intro ys;induction ys with
  | nil=>intro _;simp [kL]
  | cons a l ih =>intro hh;have h1:=ih (λx hx=>hh x (List.mem_cons_of_mem _ hx));have h2:=hh a (List.mem_cons_self ..);unfold kL at *;simp only [List.length_cons,List.map_cons,List.sum_cons,Nat.add_mul,Nat.one_mul] at *;omega
 exact Nat.le_trans (key xs h) (Nat.mul_le_mul_right _ hl)
theorem Pk {α:Type} {ok:α->Bool} {less:α->α->Bool} {most:Int} {xs:List α} (h:oS ok less most xs = true):(xs.length:Int)<=most/\∀x∈xs,ok x = true:=by
 unfold oS at h;rw [Bool.and_eq_true,decide_eq_true_eq] at h;refine ⟨h.1,λx hx=>?_⟩;obtain ⟨j,hj,rfl⟩:=List.getElem_of_mem hx;have:=List.all_eq_true.1 h.2 j (List.mem_range.2 hj);exact MI
theorem Sp {s:ByteArray} (h:Cm s = true):s.size<=30:=by
 unfold Cm at h;rw [Bool.and_eq_true,decide_eq_true_eq] at h;omega
theorem Sq {s:ByteArray} (h:AQ s = true):s.size<=20:=by
 unfold AQ at h;simp only [Bool.or_eq_true,Bool.and_eq_true,decide_eq_true_eq] at h;omega
theorem WN {s:ByteArray} (h:Qs s = true):s.size<=20:=by
 unfold Qs at h;exact yz
theorem IG {xs:List ao} (h:sD xs = true):kL ao.wt xs<=306:=by
 obtain ⟨h1,h2⟩:=Pk h;refine BB (n:=6) (b:=50) J λl hl=>?_;have h3:=h2 l hl;unfold zX at h3;rw [Bool.and_eq_true] at h3;have:=Sp h3.1;have:=Sq h3.2;have e:ao.wt l = l.key.size+l.value.size:=rfl;omega
theorem Ss {xs:List iU} (h:La xs = true):kL iU.wt xs<=204:=by
 obtain ⟨h1,h2⟩:=Pk h;refine BB (n:=4) (b:=50) J λl hl=>?_;have h3:=h2 l hl;unfold Dp at h3;rw [Bool.and_eq_true,Bool.and_eq_true] at h3;have:=Sp h3.1.1;have:=Sq h3.1.2;have e:iU.wt l = l.key.size+l.value.size:=rfl;omega
theorem Pm {xs:List bH} (h:Ya xs = true):kL bH.wt xs<=204:=by
 obtain ⟨h1,h2⟩:=Pk h;refine BB (n:=4) (b:=50) J λl hl=>?_;have h3:=h2 l hl;unfold Q5 at h3;simp only [Bool.and_eq_true] at h3;have h4:l.key.size<=30:=by
  have h5:=h3.1.1.1;rw [Bool.or_eq_true,Bool.and_eq_true] at h5;rcases h5 with h5 | h5
  ·exact Sp h5
  ·rw [toList_nil.1 h5.1];decide
 have:=Sq h3.1.1.2;have e:bH.wt l = l.key.size+l.value.size:=rfl;omega
theorem St {xs:List aL} (h:lN xs = true):kL aL.wt xs<=460:=by
 obtain ⟨h1,h2⟩:=Pk h;refine BB (n:=4) (b:=114) J λl hl=>?_;have h3:=h2 l hl;unfold uh at h3;rw [Bool.and_eq_true,Bool.and_eq_true] at h3;have h4:=Sp h3.1.1;have e:aL.wt l = l.key.size+It l.values:=rfl;have h5:It l.values<=84:=by
  have h6:=h3.2;split at h6
  ·rw [decide_eq_true_eq] at h6;rw [List.eq_nil_of_length_eq_zero h6];decide
  ·rw [Bool.and_eq_true] at h6;obtain ⟨h7,h8⟩:=Pk h6.2;exact BB (n:=4) (b:=20) J λv hv=>Sq (h8 v hv)
 omega
theorem aFM {h:ba} (hr:Aj h = true):h.wt<=530:=by
 unfold Aj at hr;simp only [Bool.and_eq_true] at hr;have h1:=WN hr.1.1.1.1;have h2:=IG hr.1.1.1.2;have h3:=Ss hr.1.1.2;have e:h.wt = h.name.size+kL ao.wt h.labels+kL iU.wt h.aT:=rfl;omega
theorem aGv {p:nI} (hr:GU p = true):p.wt<=990:=by
 unfold GU at hr;simp only [Bool.and_eq_true] at hr;have h1:=WN hr.1.1.1.1.1;have h2:=IG hr.1.1.1.1.2;have h3:=St hr.1.1.1.2;have h4:=Pm hr.1.1.2;have e:p.wt = p.name.size+kL ao.wt p.labels+kL aL.wt p.af+kL bH.wt p.ae:=rfl;omega
theorem IH {x:aU} (G:Good x):x.wt<=20000:=by
 have e:x.wt = kL ba.wt x.O+kL ag.wt x.M:=rfl;have h1:=BB (f:=ba.wt) G.h8 (b:=530) λh hh=>aFM (G.eN h hh);have h2:=BB (f:=ag.wt) G.xy (b:=1010) λp hp=>by
  have h3:=aGv (G.vu p hp);have e2:p.wt = p.aS.wt+p.on.size:=rfl;have h4:p.on.size<=20:=by
   rcases G.xz p hp with h5 | ⟨h,hh,h5⟩
   ·rw [h5];decide
   ·rw [<- h5];exact WN (aIK (G.eN h hh))
  omega
 omega
theorem aFN {x:aU} (G:Good x) (i:Nat):Good ⟨x.O,x.M.eraseIdx i,x.next,x.weights⟩ :=
 have hs:(x.M.eraseIdx i).Sublist x.M:=List.eraseIdx_sublist ..
 ⟨G.h8,Nat.le_trans hs.length_le G.xy,G.n1,G.n2,G.wt,G.eN,λh hh=>(G.mv h hh).sub hs G.vu,G.hs,λp hp=>G.vu p (hs.subset hp),λp hp=>G.zy p (hs.subset hp),λp hp=>G.xz p (hs.subset hp),G.ps.sublist hs,G.pf.sublist hs⟩
theorem WO {xs:List ba} (h:xs.Pairwise λa b=>dQ a b = true) {i j:Nat} (hi:i < xs.length) (hj:j < xs.length) (mW:i≠j):xs[i].name≠xs[j].name:=by
 exact Mi
theorem sL {xs:List ag} (h:xs.Pairwise λa b=>dw a b = true) {i j:Nat} (hi:i < xs.length) (hj:j < xs.length) (mW:i≠j):xs[i].aS.name≠xs[j].aS.name:=by
 exact Mi
theorem aFO {x:aU} (G:Good x) {n:ba} (hn:Aj n = true) (uK:∀h∈x.O,h.name≠n.name) (hl:x.O.length < 8):Good ⟨eV (fS n.name x.O) n x.O,x.M,x.next,x.weights⟩:=by
 have hm:∀h,h∈eV (fS n.name x.O) n x.O↔h = n∨h∈x.O:=by
  intro h;unfold eV;rw [List.mem_append,List.mem_cons];have e:h∈x.O↔h∈x.O.take (fS n.name x.O)∨h∈x.O.drop (fS n.name x.O):=by
   rw [<- List.mem_append,List.take_append_drop]
  rw [e];constructor
  ·exact yo
  ·exact yo
 refine ⟨by dsimp only;rw [xf];omega,G.xy,G.n1,G.n2,G.wt,λh hh=>?_,λh hh=>?_,?_,G.vu,G.zy,λp hp=>?_,G.ps,G.pf⟩
 ·rcases (hm h).1 hh with rfl | hh
  ·exact hn
  ·exact G.eN h hh
 ·rcases (hm h).1 hh with rfl | hh
  ·have e:F7 h.name x.M = []:=by
    unfold F7;rw [List.map_eq_nil_iff,List.filter_eq_nil_iff];intro p hp eC;obtain ⟨h1,h2⟩:=WK.1 eC;rcases G.xz p hp with h3 | ⟨g,hg,h3⟩
    ·exact h1 (h2.symm.trans h3)
    ·exact uK g hg (h3.trans h2)
   have:=aFP hn;unfold kD mi;rw [e];simp only [List.map_nil,List.sum_nil,List.length_nil];omega
  ·exact G.mv h hh
 ·show (eV (fS n.name x.O) n x.O).Pairwise λa b=>dQ a b = true;unfold eV;have h0:=G.hs;rw [<- List.take_append_drop (fS n.name x.O) x.O,List.pairwise_append] at h0;have ha:∀a∈x.O.take (fS n.name x.O),dQ a n = true:=by
   intro a ha;obtain ⟨i,hi,rfl⟩:=List.mem_take_iff_getElem.1 ha;exact Vd J J
  have hb:∀b∈x.O.drop (fS n.name x.O),dQ n b = true:=by
   intro b hb;obtain ⟨i,hi,rfl⟩:=List.mem_drop_iff_getElem.1 hb;have h1:dQ n (x.O[fS n.name x.O]'J) = true:=by
    have h2:=TS (nm:=n.name) (xs:=x.O) J;have h3:=uK _ (List.getElem_mem (l:=x.O) (n:=fS n.name x.O) J);unfold Bm at h2;unfold dQ;cases h4:Op.bytesLess n.name.toList (x.O[fS n.name x.O]'J).name.toList with
    | true=>rfl
    | false=>exact absurd (ey (OR _ _ h2 h4)) h3
   cases i with
   | zero=>simpa using h1
   | succ i=>exact ayw _ _ _ h1 (List.pairwise_iff_getElem.1 G.hs _ _ J J J)
  exact Me
 ·rcases G.xz p hp with h3 | ⟨g,hg,h3⟩
  ·exact .inl h3
  ·exact .inr ⟨g,(hm g).2 (.inr hg),h3⟩
theorem aD4 {x:aU} (G:Good x) (u:ba):Good (f' x u).1:=by
 unfold f';split
 ·rename_i hc;split
  ·exact G
  ·rename_i hx;split
   ·exact G
   ·rename_i hl;refine aFO G ?_ (λh hh e=>hx (Bx.2 ⟨h,hh,BA.2 e⟩)) J;have h2:=hc.2;unfold bf at h2 |-;split
    ·rename_i h3;exact h3.2.2
    ·rename_i h3;rw [if_neg h3] at h2;cases h2
 ·exact G
theorem aCr {x:aU} (G:Good x) {n:nI} (hn:GU n = true) (uK:∀p∈x.M,p.aS.name≠n.name) (hl:x.M.length < 12) (hx:x.next < 1000000000):Good ⟨x.O,eV (fh n.name x.M) (dd x n) x.M,x.next+1,x.weights⟩:=by
 have hm:∀h,h∈eV (fh n.name x.M) (dd x n) x.M↔h = dd x n∨h∈x.M:=by
  intro h;unfold eV;rw [List.mem_append,List.mem_cons];have e:h∈x.M↔h∈x.M.take (fh n.name x.M)∨h∈x.M.drop (fh n.name x.M):=by
   rw [<- List.mem_append,List.take_append_drop]
  rw [e];constructor
  ·exact yo
  ·exact yo
 have ap:∀{i:Nat} (hi:i < x.M.length),i < fh n.name x.M->dw x.M[i] (dd x n) = true:=λhi h=>We h hi;have n1:=G.n1;refine ⟨G.h8,by dsimp only;rw [xf];omega,by dsimp only;omega,by dsimp only;omega,G.wt,G.eN,λh hh=>?_,G.hs,λp hp=>?_,λp hp=>?_,λp hp=>?_,?_,?_⟩
 ·refine (G.mv h hh).same ?_;show F7 h.name (eV _ _ _) = _;unfold eV;rw [ID,By (IF (.inl rfl)),<- ID,List.take_append_drop]
 ·rcases (hm p).1 hp with rfl | hp
  ·exact hn
  ·exact G.vu p hp
 ·rcases (hm p).1 hp with rfl | hp
  ·show 1<=x.next/\x.next<=x.next+1 - 1;omega
  ·have:=G.zy p hp;show 1<=p.seq/\p.seq<=x.next+1 - 1;omega
 ·rcases (hm p).1 hp with rfl | hp
  ·exact .inl rfl
  ·exact G.xz p hp
 ·show (eV (fh n.name x.M) (dd x n) x.M).Pairwise λa b=>dw a b = true;unfold eV;have h0:=G.ps;rw [<- List.take_append_drop (fh n.name x.M) x.M,List.pairwise_append] at h0;have ha:∀a∈x.M.take (fh n.name x.M),dw a (dd x n) = true:=by
   intro a ha;obtain ⟨i,hi,rfl⟩:=List.mem_take_iff_getElem.1 ha;exact ap J J
  have hb:∀b∈x.M.drop (fh n.name x.M),dw (dd x n) b = true:=by
   intro b hb;obtain ⟨i,hi,rfl⟩:=List.mem_drop_iff_getElem.1 hb;have h1:dw (dd x n) (x.M[fh n.name x.M]'J) = true:=by
    have h2:=TU (nm:=n.name) (xs:=x.M) J;have h3:=uK _ (List.getElem_mem (l:=x.M) (n:=fh n.name x.M) J);unfold Bs at h2;unfold dw dd;dsimp only;cases h4:Op.bytesLess n.name.toList (x.M[fh n.name x.M]'J).aS.name.toList with
    | true=>rfl
    | false=>exact absurd (ey (OR _ _ h2 h4)) h3
   cases i with
   | zero=>simpa using h1
   | succ i=>exact axm _ _ _ h1 (List.pairwise_iff_getElem.1 G.ps _ _ J J J)
  exact Me
 ·show (eV (fh n.name x.M) (dd x n) x.M).Pairwise λa b=>a.seq≠b.seq;unfold eV;have h0:=G.pf;rw [<- List.take_append_drop (fh n.name x.M) x.M,List.pairwise_append] at h0;have hq:∀p∈x.M,p.seq≠x.next:=λp hp=>by have:=G.zy p hp;omega
  rw [List.pairwise_append,List.pairwise_cons];refine ⟨h0.1,⟨λb hb=>(hq b (List.mem_of_mem_drop hb)).symm,h0.2.1⟩,λa Mf b dP=>?_⟩;rcases List.mem_cons.1 dP with rfl | dP
  ·exact hq a (List.mem_of_mem_take Mf)
  ·exact h0.2.2 a Mf b dP
theorem aD3 {x:aU} (G:Good x) (u:nI):Good (ff x u).1:=by
 unfold ff;split
 ·rename_i hc;split
  ·exact G
  ·rename_i hx;split
   ·exact G
   ·rename_i hl;refine aCr G ?_ (λh hh e=>hx (Bx.2 ⟨h,hh,Sm.2 e⟩)) J J;have h2:=hc.2;unfold jf at h2 |-;split
    ·rename_i h3;exact h3.2.2.2
    ·rename_i h3;rw [if_neg h3] at h2;cases h2
 ·exact G
theorem fR {β:Type} {lt:β->β->Bool} (T:ot lt) {xs:List β} (h:de lt xs):dx lt [] xs = xs :=
 de.eq T (SZ T xs List.Pairwise.nil) h λz=>by rw [Cr T];simp
theorem pb {β:Type} {lt:β->β->Bool} {y:β} : ∀{l:List β},(∀z∈l,lt y z = false)->OM lt y l = l++[y]
 | [],_=>rfl
 | z :: r,h=>by
   rw [OM,if_neg (by rw [h z List.mem_cons_self];simp),pb λq hq=>h q (List.mem_cons_of_mem _ hq)];rfl
theorem qt {β:Type} {lt:β->β->Bool} (ha:∀x y,lt x y = true->lt y x = false) (xs:List β):xs.Pairwise (λa b=>lt a b = true)->bd lt [] xs = xs:=by
 generalize hn:xs.length = n;induction n generalizing xs with
 | zero=>intro _;rw [List.eq_nil_of_length_eq_zero hn];rfl
 | succ n ih =>intro h;have bI:xs≠[]:=(by intro e;rw [e] at hn;cases hn);obtain ⟨ys,y,rfl⟩:∃ys y,xs = ys++[y]:=⟨xs.dropLast,xs.getLast bI,(List.dropLast_concat_getLast bI).symm⟩;rw [List.pairwise_append] at h;rw [V3,ih ys (by simpa using hn) h.1,pb λz hz=>ha _ _ (h.2.2 z hz y S')]
theorem fi {α:Type} {ok:α->Bool} {less:α->α->Bool} (tr:∀a b c,less a b = true->less b c = true->less a c = true) {m:Int} {xs:List α} (h:oS ok less m xs = true):(xs.length:Int)<=m/\(∀x∈xs,ok x = true)/\xs.Pairwise λa b=>less a b = true:=by
 unfold oS at h;rw [Bool.and_eq_true,decide_eq_true_eq] at h;exact ⟨h.1,(WB tr xs).1 h.2⟩
theorem P6 (a b:ao) (h:zi a b = true):kS eE a b = true:=by
 unfold kS eE;unfold zi at h;rw [decide_eq_true_eq,Wx,<- ByteArray.toList_eq,<- ByteArray.toList_eq];exact h
theorem cT {xs:List ao} (h:sD xs = true):BG xs = (xs,true):=by
 have e:bd (kS eE) [] xs = xs:=qt (λx y h=>rK.asym h) xs ((fi (less:=zi) (λa b c=>Bp _ _ _) h).2.2.imp λ{a b} hh=>P6 a b hh);rw [UH (by rw [e];exact h),e]
theorem gC {xs:List bH} (h:Ya xs = true):jK xs = (xs,true):=by
 obtain ⟨h1,_,h3⟩:=fi EO.trans h;have e:dx vJ [] xs = xs:=fR EO h3;rw [Wa J (by rw [e];exact h),e]
theorem qu {x:aL} (h:uh x = true):gm x.values = x.values:=by
 unfold uh at h;rw [Bool.and_eq_true] at h;have h2:=h.2;split at h2
 ·rw [decide_eq_true_eq] at h2;rw [List.eq_nil_of_length_eq_zero h2];rfl
 ·rw [Bool.and_eq_true] at h2;exact fR vo (fi (less:=bl) (λa b c=>Bp _ _ _) h2.2).2.2
theorem wg {x:aL} (h:uh x = true):x.values.length<=40:=by
 unfold uh at h;rw [Bool.and_eq_true] at h;have h2:=h.2;split at h2
 ·rw [decide_eq_true_eq] at h2;omega
 ·rw [Bool.and_eq_true] at h2;have:=(fi (less:=bl) (λa b c=>Bp _ _ _) h2.2).1;omega
theorem fV {xs:List aL} (h:lN xs = true):jA xs = (xs,true):=by
 obtain ⟨h1,h2,h3⟩:=fi Is.trans h;have em:xs.map lr = xs:=by
  have:xs.map lr = xs.map id:=List.map_congr_left λx hx=>by
   unfold lr;rw [qu (h2 x hx)];rfl
  rw [this,List.map_id]
 have e:jN xs = xs:=by unfold jN;rw [em];exact fR Is h3
 rw [Wc J (aDw λj hj=>wg (h2 _ (List.getElem_mem hj))) (by rw [e];exact h),e]
theorem aDz {p:nI} (h:GU p = true):sD p.labels = true/\lN p.af = true/\Ya p.ae = true:=by
 unfold GU at h;simp only [Bool.and_eq_true] at h;simp_all
theorem kO {p:nI} (h:GU p = true):jf p = (p,true):=by
 obtain ⟨h1,h2,h3⟩:=aDz h;have e:mR p = p:=by unfold mR;rw [cT h1,fV h2,gC h3]
 unfold jf;rw [e,if_pos ⟨by rw [cT h1],by rw [fV h2],by rw [gC h3],h⟩]
theorem fj {xs:List iU} (h:La xs = true):Fq xs = (xs,true):=by
 obtain ⟨h1,_,h3⟩:=fi EN.trans h;have e:dx qo [] xs = xs:=fR EN h3;rw [UJ J (by rw [e];exact h),e]
theorem jS {p:ba} (h:Aj p = true):bf p = (p,true):=by
 have h':=h;unfold Aj at h';simp only [Bool.and_eq_true] at h';have h1:sD p.labels = true:=by simp_all
 have h2:La p.aT = true:=by simp_all
 have e:mO p = p:=by unfold mO;rw [cT h1,fj h2]
 unfold bf;rw [e,if_pos ⟨by rw [cT h1],by rw [fj h2],h⟩]
end Go.Proofs.YtdegaofigemegaaGreat
