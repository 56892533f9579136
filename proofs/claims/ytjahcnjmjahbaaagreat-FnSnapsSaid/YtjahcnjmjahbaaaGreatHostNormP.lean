/- HostNormal in plain Lean. No condition. -/
import Derived.Test.YtjahcnjmjahbaaaGreatSmallHP
namespace Go.Proofs.YtjahcnjmjahbaaaGreat
open Go.ChangeShapes Go.WideShapes Go.ChangeAt Go.RowKit
set_option linter.unusedVariables false
set_option linter.unusedSimpArgs false
def rn (x:az):az:=⟨x.name,(BG x.labels).1,x.ax,x.mem,x.ar,(Fq x.aT).1⟩
def bf (x:az):az × Bool:=if (BG x.labels).2 = true∧(Fq x.aT).2 = true∧Aj (rn x) = true then (rn x,true) else (x,false)
theorem aCl (x:az):(rn x).wt≤x.wt:=by
 have h1:=aJZ x.labels;have h2:=azM x.aT;unfold rn az.wt;dsimp only;omega
def rK (x:nI):nI:=⟨x.name,(BG x.labels).1,x.ax,x.mem,x.aD,(jt x.ag).1,(j' x.ae).1⟩
def jf (x:nI):nI × Bool:=if (BG x.labels).2 = true∧(jt x.ag).2 = true∧(j' x.ae).2 = true∧GU (rK x) = true then (rK x,true) else (x,false)
theorem aDX (x:nI):(rK x).wt≤x.wt:=by
 have h1:=aJZ x.labels;have h2:=aAu x.ag;have h3:=aBz x.ae;unfold rK nI.wt;dsimp only;omega
theorem am.Tk {α β:Type} [bd α] [bd β] {w:World} {B:Nat} {x:α} {y:β} {c1 c2:List Value} {F1 F2:List Nat} (h1:am w B x c1 F1) (h2:am w B y c2 F2) (hd:∀b∈F1,b∉F2):am w B (x,y) (c1++c2) (F1++F2):=by
 exact zm
theorem am.aEC {w:World} {B:Nat} {x:aU} {Ah Ap:Option Addr} {nh ch np cp:Nat} {n p q f:Int} {G:List Nat} (h:am w B x [.slice Ah nh ch,.slice Ap np cp,.int .i64 n,.int .i64 p,.int .i64 q,.int .i64 f] G) :
 ∃Gh Gp,am w B x.Z [.slice Ah nh ch] Gh∧am w B x.O [.slice Ap np cp] Gp∧(∀y∈Gh,y∉Gp)∧(∀y∈Gh,y∈G)∧(∀y∈Gp,y∈G):=by
 obtain ⟨⟨c1,c2,F1,F2,e1,rfl,hh,d1,d2,G1,G2,e3,rfl,hp,g1,g2,H1,H2,e5,e6,⟨e7,e8,hn⟩,fW⟩,hnd,hb,fl⟩:=h;obtain ⟨A,c,rfl,_⟩:=jB hh;obtain ⟨A2,c2',rfl,_⟩:=jB hp;subst e7 e5 e3;simp only [List.cons_append,List.nil_append,List.cons.injEq] at e1;obtain ⟨ea,eb,_⟩:=e1;rw [List.nodup_append,List.nodup_append] at hnd;refine ⟨F1,G1,⟨by rw [ea];exact hh,hnd.1,fun y hy=>hb y (by simp [hy]),fun y hy=>fl y (by simp [hy])⟩,⟨by rw [eb];exact hp,hnd.2.1.1,fun y hy=>hb y (by simp [hy]),fun y hy=>fl y (by simp [hy])⟩,fun y hy lL=>hnd.2.2 y hy y (by simp [lL]) rfl,fun y hy=>by simp [hy],fun y hy=>by simp [hy]⟩
theorem am.OF {w:World} {B:Nat} {H:List az} {Q:List ai} {Ah Ap:Option Addr} {nh ch np cp:Nat} {n p q f:Int} {Gh Gp:List Nat} (h:am w B H [.slice Ah nh ch] Gh) (k:am w B Q [.slice Ap np cp] Gp) (hd:∀y∈Gh,y∉Gp) (hn:bi n) (hp:bi p) (hq:bi q) (hf:bi f) :
 am w B (⟨H,Q,n,⟨p,q,f⟩⟩:aU) [.slice Ah nh ch,.slice Ap np cp,.int .i64 n,.int .i64 p,.int .i64 q,.int .i64 f] (Gh++Gp):=by
 refine am.up (B':=B) (fun x:aU=>(x.Z,x.O,x.next,x.weights)) ?_ (Nat.le_refl _);have h5:am w B (⟨p,q,f⟩:rZ) ([.int .i64 p]++([.int .i64 q]++[.int .i64 f])) []:=by exact zA
 have h6:=am.cons (jL w n hn) h5;have h7:=am.Tk h (am.Tk k h6 (fun b _ hb=>by cases hb)) (fun b hb d9=>hd b hb (by simpa using d9));simpa using h7
theorem Bn {P:Program} {t e:TypeId} {z:Value} {size bytes:Nat} (hE:DL P t e z size bytes) {o:Oper} {a:Act} {K:Act→World→Prop} {Q:Exit→Act→World→Prop} (s x:Operand)
 (ho:o.op = .call { callee:=.builtin .append,args:=#[s,x],argTypes:=#[t,t] })
 (w:World) (base:Nat) (v:Value) (n:Nat) (xs:List Value) (aR:w.ownsRow base e size v n xs) (hs:a.eval s = v) (c:Nat) (hx:a.eval x = .slice none 0 c)
 (h:∀v' w',w'.ownsRow base e size v' (n+0) (xs++[])→w.grownBy w' v.ownBlock→(v'.ownBlock = v.ownBlock∨v'.ownBlock = some w.heap.size)→K (a.put o.dst v') w'):o.wp P a w K Q:=by
 obtain ⟨ht,hi0,km,eQ⟩:=hE;obtain ⟨i,hi,hz,hsize,hb⟩:=info_parts hi0;have K1:∀(A2:Option Addr) (aL:Nat),v = .slice A2 n aL→n≤aL→o.wp P a w K Q:=by intro A2 aL hv fp;have hr:=run_append_nothing (P:=P) w t t o.type e i ht hi A2 n aL fp (.slice none 0 c) (Src.ofNil w ht c);unfold Oper.wp execOp;simp only [ho,resolve,invoke,builtin,Sem.run_bind,Sem.run_pure,Result.andThen_ok,List.map_toArray,List.map_cons,List.map_nil,hs,hv,hx,hr];subst hv;exact h _ w (by simpa using aR) ⟨rfl,rfl,rfl,Nat.le_refl _,fun _ _ _=>rfl⟩ (.inl rfl)
 rcases aR.2 with ⟨hv,Bf⟩ | ⟨g,aL,b5,hv,_,_,fp,_⟩
 ·exact K1 none 0 (by rw [hv,Bf]) J
 ·exact K1 _ aL hv fp
theorem aJS {P:Program} {t e:TypeId} {z:Value} {size bytes:Nat} (hE:DL P t e z size bytes) {ops:Array Oper} {rest:List Oper} {o:Oper} {a:Act} {Q:Exit→Act→World→Prop} (sM:o.guard = none) (s x:Operand)
 (ho:o.op = .call { callee:=.builtin .append,args:=#[s,x],argTypes:=#[t,t] })
 (w:World) (base:Nat) (v:Value) (n:Nat) (xs:List Value) (aR:w.ownsRow base e size v n xs) (hs:a.eval s = v) (c:Nat) (hx:a.eval x = .slice none 0 c)
 (h:∀v' w',w'.ownsRow base e size v' (n+0) (xs++[])→w.grownBy w' v.ownBlock→(v'.ownBlock = v.ownBlock∨v'.ownBlock = some w.heap.size)→wpList P ops Q rest (a.put o.dst v') w'):wpList P ops Q (o :: rest) a w :=
 wpList_plain sM fun K hK=>Bn hE s x ho w base v n xs aR hs c hx fun v' w' h1 h2 h3=>hK _ _ (h v' w' h1 h2 h3)
theorem ax7 {α:Type} [bd α] {w:World} {B c i:Nat} {u:Value} {x:α} {cs:List Value} {F:List Nat} (h:am w B x cs F) (hF:∀y∈F,y≠c):am (w.setCell ⟨c,i,none⟩ u) B x cs F :=
 h.br (fun y hy=>Below.heap_setCell _ _ _ _ AM) fd
def Bp (nm:ByteArray) (h:az):Bool:=Op.bytesLess h.name.toList nm.toList
def fw (nm:ByteArray) (xs:List az):Nat:=(xs.takeWhile (Bp nm)).length
theorem Tl (nm:ByteArray) (xs:List az):fw nm xs≤xs.length:=by
 unfold fw;induction xs with
 | nil=>simp
 | cons a l ih=>rw [List.takeWhile_cons];split <;> simp <;> omega
theorem Tm {nm:ByteArray} : ∀{xs:List az} {k:Nat},k < fw nm xs→∀(hk:k < xs.length),Bp nm xs[k] = true
 | [],_,h,hk=>absurd hk S'
 | a :: l,0,h,hk=>by
   unfold fw at h;rw [List.takeWhile_cons] at h;split at h
   ·rename_i h2;simpa using h2
   ·simp at h
 | a :: l,k+1,h,hk=>by
   unfold fw at h;rw [List.takeWhile_cons] at h;split at h
   ·simp only [List.getElem_cons_succ];exact Tm (xs:=l) (by unfold fw;simpa using h) Po
   ·simp at h
theorem Tn {nm:ByteArray} : ∀{xs:List az} (hk:fw nm xs < xs.length),Bp nm xs[fw nm xs] = false
 | [],hk=>absurd hk S'
 | a :: l,hk=>by
   by_cases h:Bp nm a = true
   ·have e:fw nm (a :: l) = fw nm l+1:=(by unfold fw;rw [List.takeWhile_cons,if_pos h];rfl);have:=Tn (nm:=nm) (xs:=l) (by rw [e] at hk;simpa using hk);simp only [e,List.getElem_cons_succ];exact this
   ·have e:fw nm (a :: l) = 0:=(by unfold fw;rw [List.takeWhile_cons,if_neg h];rfl);simp only [e,List.getElem_cons_zero];simpa using h
theorem To {nm:ByteArray} {xs:List az} {k:Nat} (h1:k≤fw nm xs) (h2:∀hk:k < xs.length,Bp nm xs[k] = false):k = fw nm xs:=by
 have:=Tl nm xs;by_cases h:k < fw nm xs
 ·have h3:=Tm h J;rw [h2 J] at h3;cases h3
 ·omega
def mH (x:aU) (u:az):aU × Int :=
 if iI x = true∧(bf u).2 = true then (if 0≤pK (iM (bf u).1.name) x.Z then (x,2) else if 8≤x.Z.length then (x,4) else (⟨fI (fw (bf u).1.name x.Z) (bf u).1 x.Z,x.O,x.next,x.weights⟩,0)) else (x,1)
def B6 (nm:ByteArray) (h:ai):Bool:=Op.bytesLess h.aS.name.toList nm.toList
def fg (nm:ByteArray) (xs:List ai):Nat:=(xs.takeWhile (B6 nm)).length
theorem T6 (nm:ByteArray) (xs:List ai):fg nm xs≤xs.length:=by
 unfold fg;induction xs with
 | nil=>simp
 | cons a l ih=>rw [List.takeWhile_cons];split <;> simp <;> omega
theorem T7 {nm:ByteArray} : ∀{xs:List ai} {k:Nat},k < fg nm xs→∀(hk:k < xs.length),B6 nm xs[k] = true
 | [],_,h,hk=>absurd hk S'
 | a :: l,0,h,hk=>by
   unfold fg at h;rw [List.takeWhile_cons] at h;split at h
   ·rename_i h2;simpa using h2
   ·simp at h
 | a :: l,k+1,h,hk=>by
   unfold fg at h;rw [List.takeWhile_cons] at h;split at h
   ·simp only [List.getElem_cons_succ];exact T7 (xs:=l) (by unfold fg;simpa using h) Po
   ·simp at h
theorem T9 {nm:ByteArray} : ∀{xs:List ai} (hk:fg nm xs < xs.length),B6 nm xs[fg nm xs] = false
 | [],hk=>absurd hk S'
 | a :: l,hk=>by
   by_cases h:B6 nm a = true
   ·have e:fg nm (a :: l) = fg nm l+1:=(by unfold fg;rw [List.takeWhile_cons,if_pos h];rfl);have:=T9 (nm:=nm) (xs:=l) (by rw [e] at hk;simpa using hk);simp only [e,List.getElem_cons_succ];exact this
   ·have e:fg nm (a :: l) = 0:=(by unfold fg;rw [List.takeWhile_cons,if_neg h];rfl);simp only [e,List.getElem_cons_zero];simpa using h
theorem T' {nm:ByteArray} {xs:List ai} {k:Nat} (h1:k≤fg nm xs) (h2:∀hk:k < xs.length,B6 nm xs[k] = false):k = fg nm xs:=by
 have:=T6 nm xs;by_cases h:k < fg nm xs
 ·have h3:=T7 h J;rw [h2 J] at h3;cases h3
 ·omega
def d8 (x:aU) (n:nI):ai:=⟨n,⟨#[]⟩,x.next⟩
theorem aAf {x:aU} (h:iI x = true):1≤x.next∧x.next≤1000000000:=by
 unfold iI Em at h;simp only [Bool.and_eq_true,decide_eq_true_eq] at h;exact h.1.2.2.1
def lN (x:aU) (u:nI):aU × Int :=
 if iI x = true∧(jf u).2 = true then (if 0≤pK (CG (jf u).1.name) x.O then (x,2) else if 12≤x.O.length∨1000000000≤x.next then (x,4) else (⟨x.Z,fI (fg (jf u).1.name x.O) (d8 x (jf u).1) x.O,x.next+1,x.weights⟩,0)) else (x,1)
theorem am.d8 {w:World} {B:Nat} {x:aU} {n:nI} {cs:List Value} {G:List Nat} (h:am w B n cs G) (hn:bi x.next):am w B (d8 x n) (cs++[.string ⟨#[]⟩,.int .i64 x.next]) G:=by
 have h5:am w B ((⟨#[]⟩:ByteArray),x.next) ([.string ⟨#[]⟩]++[.int .i64 x.next]) []:=am.cons (cV w ⟨#[]⟩ (rV (Nat.zero_le _))) (am.dy (jL w x.next hn));have h6:=am.Tk h h5 (fun _ _ hb=>by cases hb);rw [List.append_nil] at h6;exact am.up (B':=B) (fun x:ai=>(x.aS,x.on,x.seq)) h6 (Nat.le_refl _)
theorem wK {α:Type} {f:α→Nat} {xs:List α} {n b:Nat} (hl:xs.length≤n) (h:∀x∈xs,f x≤b):kL f xs≤n * (b+1):=by
 have key:∀ys:List α,(∀x∈ys,f x≤b)→kL f ys≤ys.length * (b+1):=by
  intro ys;induction ys with
  | nil=>intro _;simp [kL]
  | cons a l ih =>intro hh;have h1:=ih (fun x hx=>hh x (List.mem_cons_of_mem _ hx));have h2:=hh a (List.mem_cons_self ..);unfold kL at *;simp only [List.length_cons,List.map_cons,List.sum_cons,Nat.add_mul,Nat.one_mul] at *;omega
 exact Nat.le_trans (key xs h) (Nat.mul_le_mul_right _ hl)
theorem LZ {α:Type} {ok:α→Bool} {less:α→α→Bool} {most:Int} {xs:List α} (h:lE ok less most xs = true):(xs.length:Int)≤most∧∀x∈xs,ok x = true:=by
 unfold lE at h;rw [Bool.and_eq_true,decide_eq_true_eq] at h;refine ⟨h.1,fun x hx=>?_⟩;obtain ⟨j,hj,rfl⟩:=List.getElem_of_mem hx;have:=List.all_eq_true.1 h.2 j (List.mem_range.2 hj);exact JN
theorem Qd {s:ByteArray} (h:Cm s = true):s.size≤30:=by
 unfold Cm at h;rw [Bool.and_eq_true,decide_eq_true_eq] at h;omega
theorem Qf {s:ByteArray} (h:AQ s = true):s.size≤20:=by
 unfold AQ at h;simp only [Bool.or_eq_true,Bool.and_eq_true,decide_eq_true_eq] at h;omega
theorem Uw {s:ByteArray} (h:Qs s = true):s.size≤20:=by
 unfold Qs at h;exact qz
theorem Uy {xs:List ao} (h:sD xs = true):kL ao.wt xs≤306:=by
 obtain ⟨h1,h2⟩:=LZ h;refine wK (n:=6) (b:=50) J fun l hl=>?_;have h3:=h2 l hl;unfold zX at h3;rw [Bool.and_eq_true] at h3;have:=Qd h3.1;have:=Qf h3.2;have e:ao.wt l = l.key.size+l.value.size:=rfl;omega
theorem azE {xs:List iU} (h:La xs = true):kL iU.wt xs≤204:=by
 obtain ⟨h1,h2⟩:=LZ h;refine wK (n:=4) (b:=50) J fun l hl=>?_;have h3:=h2 l hl;unfold Dp at h3;rw [Bool.and_eq_true,Bool.and_eq_true] at h3;have:=Qd h3.1.1;have:=Qf h3.1.2;have e:iU.wt l = l.key.size+l.value.size:=rfl;omega
theorem aBZ {xs:List bH} (h:Ya xs = true):kL bH.wt xs≤204:=by
 obtain ⟨h1,h2⟩:=LZ h;refine wK (n:=4) (b:=50) J fun l hl=>?_;have h3:=h2 l hl;unfold Q5 at h3;simp only [Bool.and_eq_true] at h3;have h4:l.key.size≤30:=by
  have h5:=h3.1.1.1;rw [Bool.or_eq_true,Bool.and_eq_true] at h5;rcases h5 with h5 | h5
  ·exact Qd h5
  ·rw [toList_nil.1 h5.1];decide
 have:=Qf h3.1.1.2;have e:bH.wt l = l.key.size+l.value.size:=rfl;omega
theorem aDL {xs:List ba} (h:lI xs = true):kL ba.wt xs≤460:=by
 obtain ⟨h1,h2⟩:=LZ h;refine wK (n:=4) (b:=114) J fun l hl=>?_;have h3:=h2 l hl;unfold uh at h3;rw [Bool.and_eq_true,Bool.and_eq_true] at h3;have h4:=Qd h3.1.1;have e:ba.wt l = l.key.size+D4 l.values:=rfl;have h5:D4 l.values≤84:=by
  have h6:=h3.2;split at h6
  ·rw [decide_eq_true_eq] at h6;rw [List.eq_nil_of_length_eq_zero h6];decide
  ·rw [Bool.and_eq_true] at h6;obtain ⟨h7,h8⟩:=LZ h6.2;exact wK (n:=4) (b:=20) J fun v hv=>Qf (h8 v hv)
 omega
theorem aFM {h:az} (hr:Aj h = true):h.wt≤530:=by
 unfold Aj at hr;simp only [Bool.and_eq_true] at hr;have h1:=Uw hr.1.1.1.1;have h2:=Uy hr.1.1.1.2;have h3:=azE hr.1.1.2;have e:h.wt = h.name.size+kL ao.wt h.labels+kL iU.wt h.aT:=rfl;omega
theorem aGv {p:nI} (hr:GU p = true):p.wt≤990:=by
 unfold GU at hr;simp only [Bool.and_eq_true] at hr;have h1:=Uw hr.1.1.1.1.1;have h2:=Uy hr.1.1.1.1.2;have h3:=aDL hr.1.1.1.2;have h4:=aBZ hr.1.1.2;have e:p.wt = p.name.size+kL ao.wt p.labels+kL ba.wt p.ag+kL bH.wt p.ae:=rfl;omega
theorem L0 {x:aU} (G:cc x):x.wt≤20000:=by
 have e:x.wt = kL az.wt x.Z+kL ai.wt x.O:=rfl;have h1:=wK (f:=az.wt) G.h8 (b:=530) fun h hh=>aFM (G.gd h hh);have h2:=wK (f:=ai.wt) G.rY (b:=1010) fun p hp=>by
  have h3:=aGv (G.pm p hp);have e2:p.wt = p.aS.wt+p.on.size:=rfl;have h4:p.on.size≤20:=by
   rcases G.te p hp with h5 | ⟨h,hh,h5⟩
   ·rw [h5];decide
   ·rw [← h5];exact Uw (Uu (G.gd h hh))
  omega
 omega
theorem aFN {x:aU} (G:cc x) (i:Nat):cc ⟨x.Z,x.O.eraseIdx i,x.next,x.weights⟩ :=
 have hs:(x.O.eraseIdx i).Sublist x.O:=List.eraseIdx_sublist ..
 ⟨G.h8,Nat.le_trans hs.length_le G.rY,G.n1,G.n2,G.wt,G.gd,fun h hh=>(G.vb h hh).sub hs G.pm,G.hs,fun p hp=>G.pm p (hs.subset hp),fun p hp=>G.td p (hs.subset hp),fun p hp=>G.te p (hs.subset hp),G.ps.sublist hs,G.pf.sublist hs⟩
theorem aCq {xs:List az} (h:xs.Pairwise fun a b=>dQ a b = true) {i j:Nat} (hi:i < xs.length) (hj:j < xs.length) (pG:i≠j):xs[i].name≠xs[j].name:=by
 rcases Nat.lt_or_gt_of_ne pG with h1 | h1
 ·exact Uv (List.pairwise_iff_getElem.1 h i j hi hj h1)
 ·exact (Uv (List.pairwise_iff_getElem.1 h j i hj hi h1)).symm
theorem aFO {x:aU} (G:cc x) {n:az} (hn:Aj n = true) (nf:∀h∈x.Z,h.name≠n.name) (hl:x.Z.length < 8):cc ⟨fI (fw n.name x.Z) n x.Z,x.O,x.next,x.weights⟩:=by
 have hm:∀h,h∈fI (fw n.name x.Z) n x.Z↔h = n∨h∈x.Z:=by
  intro h;unfold fI;rw [List.mem_append,List.mem_cons];have e:h∈x.Z↔h∈x.Z.take (fw n.name x.Z)∨h∈x.Z.drop (fw n.name x.Z):=by
   rw [← List.mem_append,List.take_append_drop]
  rw [e];constructor
  ·exact ud
  ·exact ud
 refine ⟨by dsimp only;rw [yX];omega,G.rY,G.n1,G.n2,G.wt,fun h hh=>?_,fun h hh=>?_,?_,G.pm,G.td,fun p hp=>?_,G.ps,G.pf⟩
 ·rcases (hm h).1 hh with rfl | hh
  ·exact hn
  ·exact G.gd h hh
 ·rcases (hm h).1 hh with rfl | hh
  ·have e:F7 h.name x.O = []:=by
    unfold F7;rw [List.map_eq_nil_iff,List.filter_eq_nil_iff];intro p hp eO;obtain ⟨h1,h2⟩:=Ur.1 eO;rcases G.te p hp with h3 | ⟨g,hg,h3⟩
    ·exact h1 (h2.symm.trans h3)
    ·exact nf g hg (h3.trans h2)
   have:=aFP hn;unfold ij ju;rw [e];simp only [List.map_nil,List.sum_nil,List.length_nil];omega
  ·exact G.vb h hh
 ·show (fI (fw n.name x.Z) n x.Z).Pairwise fun a b=>dQ a b = true;unfold fI;have h0:=G.hs;rw [← List.take_append_drop (fw n.name x.Z) x.Z,List.pairwise_append] at h0;have ha:∀a∈x.Z.take (fw n.name x.Z),dQ a n = true:=by
   intro a ha;obtain ⟨i,hi,rfl⟩:=List.mem_take_iff_getElem.1 ha;exact Tm J J
  have hb:∀b∈x.Z.drop (fw n.name x.Z),dQ n b = true:=by
   intro b hb;obtain ⟨i,hi,rfl⟩:=List.mem_drop_iff_getElem.1 hb;have h1:dQ n (x.Z[fw n.name x.Z]'J) = true:=by
    have h2:=Tn (nm:=n.name) (xs:=x.Z) J;have h3:=nf _ (List.getElem_mem (l:=x.Z) (n:=fw n.name x.Z) J);unfold Bp at h2;unfold dQ;cases h4:Op.bytesLess n.name.toList (x.Z[fw n.name x.Z]'J).name.toList with
    | true=>rfl
    | false=>exact absurd (ee (LF _ _ h2 h4)) h3
   cases i with
   | zero=>simpa using h1
   | succ i=>exact ayw _ _ _ h1 (List.pairwise_iff_getElem.1 G.hs _ _ J J J)
  exact I1
 ·rcases G.te p hp with h3 | ⟨g,hg,h3⟩
  ·exact .inl h3
  ·exact .inr ⟨g,(hm g).2 (.inr hg),h3⟩
theorem aD4 {x:aU} (G:cc x) (u:az):cc (mH x u).1:=by
 unfold mH;split
 ·rename_i hc;split
  ·exact G
  ·rename_i hx;split
   ·exact G
   ·rename_i hl;refine aFO G ?_ (fun h hh e=>hx (LS.2 ⟨h,hh,Cf.2 e⟩)) J;have h2:=hc.2;unfold bf at h2 ⊢;split
    ·rename_i h3;exact h3.2.2
    ·rename_i h3;rw [if_neg h3] at h2;cases h2
 ·exact G
theorem aCr {x:aU} (G:cc x) {n:nI} (hn:GU n = true) (nf:∀p∈x.O,p.aS.name≠n.name) (hl:x.O.length < 12) (hx:x.next < 1000000000):cc ⟨x.Z,fI (fg n.name x.O) (d8 x n) x.O,x.next+1,x.weights⟩:=by
 have hm:∀h,h∈fI (fg n.name x.O) (d8 x n) x.O↔h = d8 x n∨h∈x.O:=by
  intro h;unfold fI;rw [List.mem_append,List.mem_cons];have e:h∈x.O↔h∈x.O.take (fg n.name x.O)∨h∈x.O.drop (fg n.name x.O):=by
   rw [← List.mem_append,List.take_append_drop]
  rw [e];constructor
  ·exact ud
  ·exact ud
 have ap:∀{i:Nat} (hi:i < x.O.length),i < fg n.name x.O→dw x.O[i] (d8 x n) = true:=fun hi h=>T7 h hi;have n1:=G.n1;refine ⟨G.h8,by dsimp only;rw [yX];omega,by dsimp only;omega,by dsimp only;omega,G.wt,G.gd,fun h hh=>?_,G.hs,fun p hp=>?_,fun p hp=>?_,fun p hp=>?_,?_,?_⟩
 ·refine (G.vb h hh).same ?_;show F7 h.name (fI _ _ _) = _;unfold fI;rw [Ep,wJ (Er (.inl rfl)),← Ep,List.take_append_drop]
 ·rcases (hm p).1 hp with rfl | hp
  ·exact hn
  ·exact G.pm p hp
 ·rcases (hm p).1 hp with rfl | hp
  ·show 1≤x.next∧x.next≤x.next+1 - 1;omega
  ·have:=G.td p hp;show 1≤p.seq∧p.seq≤x.next+1 - 1;omega
 ·rcases (hm p).1 hp with rfl | hp
  ·exact .inl rfl
  ·exact G.te p hp
 ·show (fI (fg n.name x.O) (d8 x n) x.O).Pairwise fun a b=>dw a b = true;unfold fI;have h0:=G.ps;rw [← List.take_append_drop (fg n.name x.O) x.O,List.pairwise_append] at h0;have ha:∀a∈x.O.take (fg n.name x.O),dw a (d8 x n) = true:=by
   intro a ha;obtain ⟨i,hi,rfl⟩:=List.mem_take_iff_getElem.1 ha;exact ap J J
  have hb:∀b∈x.O.drop (fg n.name x.O),dw (d8 x n) b = true:=by
   intro b hb;obtain ⟨i,hi,rfl⟩:=List.mem_drop_iff_getElem.1 hb;have h1:dw (d8 x n) (x.O[fg n.name x.O]'J) = true:=by
    have h2:=T9 (nm:=n.name) (xs:=x.O) J;have h3:=nf _ (List.getElem_mem (l:=x.O) (n:=fg n.name x.O) J);unfold B6 at h2;unfold dw d8;dsimp only;cases h4:Op.bytesLess n.name.toList (x.O[fg n.name x.O]'J).aS.name.toList with
    | true=>rfl
    | false=>exact absurd (ee (LF _ _ h2 h4)) h3
   cases i with
   | zero=>simpa using h1
   | succ i=>exact axm _ _ _ h1 (List.pairwise_iff_getElem.1 G.ps _ _ J J J)
  exact I1
 ·show (fI (fg n.name x.O) (d8 x n) x.O).Pairwise fun a b=>a.seq≠b.seq;unfold fI;have h0:=G.pf;rw [← List.take_append_drop (fg n.name x.O) x.O,List.pairwise_append] at h0;have hq:∀p∈x.O,p.seq≠x.next:=fun p hp=>by have:=G.td p hp;omega
  rw [List.pairwise_append,List.pairwise_cons];refine ⟨h0.1,⟨fun b hb=>(hq b (List.mem_of_mem_drop hb)).symm,h0.2.1⟩,fun a I2 b d9=>?_⟩;rcases List.mem_cons.1 d9 with rfl | d9
  ·exact hq a (List.mem_of_mem_take I2)
  ·exact h0.2.2 a I2 b d9
theorem aD3 {x:aU} (G:cc x) (u:nI):cc (lN x u).1:=by
 unfold lN;split
 ·rename_i hc;split
  ·exact G
  ·rename_i hx;split
   ·exact G
   ·rename_i hl;refine aCr G ?_ (fun h hh e=>hx (LS.2 ⟨h,hh,axF.2 e⟩)) J J;have h2:=hc.2;unfold jf at h2 ⊢;split
    ·rename_i h3;exact h3.2.2.2
    ·rename_i h3;rw [if_neg h3] at h2;cases h2
 ·exact G
end Go.Proofs.YtjahcnjmjahbaaaGreat
