/- BestHost, of the program and of the reference. No condition. -/
import Derived.Test.YtajbbmembionpaaGreatRankS
import Derived.Test.YtajbbmembionpaaGreatCopyS
import Derived.Test.YtajbbmembionpaaGreatClusterSC
namespace Go.Proofs.YtajbbmembionpaaGreat
open Go.ChangeShapes Go.WideShapes Go.ChangeAt Go.RowKit
set_option linter.unusedVariables false
set_option linter.unusedSimpArgs false
set_option maxHeartbeats 4000000
set_option maxRecDepth 100000
def mW (x:aU) (p:nI):ByteArray:=(Jh x p).headD ⟨#[]⟩
def vj (x:aU) (p:nI):Bool:=!(Jh x p).isEmpty
theorem ahX (x:aU) (p:nI) (cs ps:List Value) (F G:List Nat) (w:World) (h:rd w x cs F) (h':rd w p ps G) (hw:(x.wt:Int)≤1048576) (eP:(p.wt:Int)≤1048576) :
 Calls Tryz.prog 146 #[.agg cs.toArray,.agg ps.toArray] w fun e w'=>e = .returned (.tuple #[.string (mW x p),.bool (vj x p)])∧Below w.heap.size w w':=by
 have HW:=I hw;have Uc:=I eP;clear hw eP;have hr:=h;have dd:=h';obtain ⟨bG,bD,fQ,dn,bW,jg,aD,hF,bQ,dM,hnext,aV,aP,aW⟩:=aO hr;obtain ⟨bY,bZ,iq,eU,eX,jV,bg,bn,dK,jU,hG,jW,dA,kQ,lg,lG,iO,bK⟩:=dL dd;subst aD jU;clear hF hG hr dd;have HB:=I (show ∀l,Jh x p = l→mW x p = l.headD ⟨#[]⟩∧vj x p = !l.isEmpty from fun l hl=>by unfold mW vj;rw [hl];exact ⟨rfl,rfl⟩);go_enter Tryz.func146,Tryz.ntmps146;go_wp2_with fail
 refine (Xh x p _ _ _ _ _ (aJ h b9) (aJ h' b9) HW.out Uc.out).mono ?_;rintro e w1 ⟨A,c,G1,rfl,hO,bp⟩;have vh:Below w.heap.size w w1:=ah b9 bp;obtain ⟨l,hl⟩:∃l,Jh x p = l:=⟨_,rfl⟩;rw [hl] at hO ⊢;have HL:=I (HB.out l hl);clear hl;cases l with
 | nil =>
   simp only [List.length_nil] at hO ⊢;go_wp2;go_ret2
   exact ⟨by rw [HL.out.1,HL.out.2];rfl,vh⟩
 | cons y ys =>
   have av:(0:Nat) < (y :: ys).length:=S';obtain ⟨b,o,ck,Fk,hA,hbG,hbs,aJe,_,hcells⟩:=Sl.get hO.rd av;subst hA;obtain ⟨aD,su,fX⟩:=aJe;subst aD;have mU:w1.cell? ⟨b,o,none⟩ = some (.string y):=(by have:=hcells 0 _ rfl;simpa using this);have bX:(((y :: ys).length:Int) == 0) = false:=(by simp;omega);clear hcells hO fX;obtain ⟨n,X⟩:∃n,(y :: ys).length = n:=⟨_,rfl⟩;rw [X] at av bX ⊢;clear X;go_wp2;go_ret2
   exact ⟨by rw [HL.out.1,HL.out.2];rfl,vh⟩
theorem am.join {α β:Type} [bb α] [bb β] {w:World} {B:Nat} {x:α} {y:β} {c1 c2:List Value} {F1 F2:List Nat} (Z:am w B x c1 F1) (h2:am w B y c2 F2) (hd:∀b∈F1,b∉F2):am w B (x,y) (c1++c2) (F1++F2):=by
 exact xr
theorem am.parts {w:World} {B:Nat} {x:aU} {Ah Ap:Option Addr} {nh ch np cp:Nat} {n p q f:Int} {G:List Nat} (h:am w B x [.slice Ah nh ch,.slice Ap np cp,.int .i64 n,.int .i64 p,.int .i64 q,.int .i64 f] G) :
 ∃Gh Gp,am w B x.V [.slice Ah nh ch] Gh∧am w B x.O [.slice Ap np cp] Gp∧(∀y∈Gh,y∉Gp)∧(∀y∈Gh,y∈G)∧(∀y∈Gp,y∈G):=by
 obtain ⟨⟨c1,c2,F1,F2,e1,rfl,hh,d1,d2,G1,G2,e3,rfl,hp,g1,g2,H1,H2,e5,e6,⟨e7,e8,X⟩,ik⟩,hnd,U,gP⟩:=h;obtain ⟨A,c,rfl,_⟩:=jB hh;obtain ⟨A2,c2',rfl,_⟩:=jB hp;subst e7 e5 e3;simp only [List.cons_append,List.nil_append,List.cons.injEq] at e1;obtain ⟨ea,eb,_⟩:=e1;rw [List.nodup_append,List.nodup_append] at hnd;refine ⟨F1,G1,⟨by rw [ea];exact hh,hnd.1,fun y hy=>U y (by simp [hy]),fun y hy=>gP y (by simp [hy])⟩,⟨by rw [eb];exact hp,hnd.2.1.1,fun y hy=>U y (by simp [hy]),fun y hy=>gP y (by simp [hy])⟩,fun y hy ly=>hnd.2.2 y hy y (by simp [ly]) rfl,fun y hy=>by simp [hy],fun y hy=>by simp [hy]⟩
theorem am.whole {w:World} {B:Nat} {H:List aR} {Q:List ag} {Ah Ap:Option Addr} {nh ch np cp:Nat} {n p q f:Int} {Gh Gp:List Nat} (h:am w B H [.slice Ah nh ch] Gh) (k:am w B Q [.slice Ap np cp] Gp) (hd:∀y∈Gh,y∉Gp) (X:bt n) (hp:bt p) (hq:bt q) (hf:bt f) :
 am w B (⟨H,Q,n,⟨p,q,f⟩⟩:aU) [.slice Ah nh ch,.slice Ap np cp,.int .i64 n,.int .i64 p,.int .i64 q,.int .i64 f] (Gh++Gp):=by
 refine am.up (B':=B) (fun x:aU=>(x.V,x.O,x.next,x.weights)) ?_ (Nat.le_refl _);have h5:am w B (⟨p,q,f⟩:rZ) ([.int .i64 p]++([.int .i64 q]++[.int .i64 f])) []:=by exact xF
 have h6:=am.cons (jL w n X) h5;have h7:=am.join h (am.join k h6 (fun b _ U=>by cases U)) (fun b U eo=>hd b U (by simpa using eo));simpa using h7
def Ut (x:aU) (nm:ByteArray):aU × Int :=
 if iI x = true then (if pK (CG nm) x.O < 0 then (x,3) else (⟨x.V,x.O.eraseIdx (pK (CG nm) x.O).toNat,x.next,x.weights⟩,0)) else (x,1)
def QW (nm:ByteArray) (p:ag):ag:=if p.on.toList == nm.toList then ⟨p.aS,⟨#[]⟩,p.seq⟩ else p
def VP (nm:ByteArray) (k:Nat) (xs:List ag):List ag:=(xs.take k).map (QW nm)++xs.drop k
theorem T' (nm:ByteArray) (k:Nat) (xs:List ag) (hk:k≤xs.length):(VP nm k xs).length = xs.length:=by unfold VP;rw [List.length_append,List.length_map,List.length_take,List.length_drop];omega
theorem ai0 (nm:ByteArray) (xs:List ag):VP nm 0 xs = xs:=by simp [VP]
theorem amE (nm:ByteArray) (xs:List ag):VP nm xs.length xs = xs.map (QW nm):=by simp [VP]
theorem Uh {nm:ByteArray} {k:Nat} {xs:List ag} (hk:k < xs.length) (h:k < (VP nm k xs).length):(VP nm k xs)[k] = xs[k]:=by
 have Z:((xs.take k).map (QW nm)).length = k:=by rw [List.length_map,List.length_take];omega
 simp only [VP];rw [List.getElem_append_right J];simp [show min k xs.length = k from by omega]
theorem Ui {nm:ByteArray} {k:Nat} {xs:List ag} (hk:k < xs.length):(VP nm k xs).set k (QW nm xs[k]) = VP nm (k+1) xs:=by
 have Z:((xs.take k).map (QW nm)).length = k:=by rw [List.length_map,List.length_take];omega
 unfold VP;rw [List.set_append_right _ _ J,Z,Nat.sub_self,← List.getElem_cons_drop hk,List.set_cons_zero,List.take_succ_eq_append_getElem hk,List.map_append];simp
theorem ai1 {nm:ByteArray} {k:Nat} {xs:List ag} (hk:k < xs.length) (h:QW nm xs[k] = xs[k]):VP nm (k+1) xs = VP nm k xs:=by
 rw [← Ui hk,h];have h2:k < (VP nm k xs).length:=by rw [T' nm k xs J];exact hk
 rw [← Uh (nm:=nm) hk h2,List.set_getElem_self]
theorem am.off {w:World} {B:Nat} {p:ag} {ck:List Value} {F:List Nat} (h:am w B p ck F):am w B (⟨p.aS,⟨#[]⟩,p.seq⟩:ag) (ck.set 7 (.string ⟨#[]⟩)) F:=by
 obtain ⟨⟨c1,c2,F1,F2,rfl,rfl,QS,c3,c4,F3,F4,rfl,rfl,⟨rfl,rfl,gO⟩,⟨rfl,rfl,Ue⟩⟩,hnd,U,gP⟩:=h;have hl:c1.length = 7:=bb.len QS;have e:(c1++([Value.string p.on]++[Value.int .i64 p.seq])).set 7 (.string ⟨#[]⟩) = c1++([.string ⟨#[]⟩]++[.int .i64 p.seq]):=by rw [List.set_append_right _ _ J,hl];rfl
 rw [e];exact ⟨⟨c1,_,F1,_,rfl,rfl,QS,_,_,_,_,rfl,rfl,⟨rfl,rfl,(show (0:Nat)≤maxLen from Nat.zero_le _)⟩,⟨rfl,rfl,Ue⟩⟩,hnd,U,gP⟩
theorem Uj {α:Type} [bb α] {w:World} {B c i:Nat} {u:Value} {x:α} {cs:List Value} {F:List Nat} (h:am w B x cs F) (hF:∀y∈F,y≠c):am (w.setCell ⟨c,i,none⟩ u) B x cs F :=
 h.bm (fun y hy=>Below.heap_setCell _ _ _ _ yd) ew
def Ko (x:aU) (nm:ByteArray):aU × Int :=
 if iI x = true then (if pK (iM nm) x.V < 0 then (x,3) else (⟨x.V.eraseIdx (pK (iM nm) x.V).toNat,x.O.map (QW nm),x.next,x.weights⟩,0)) else (x,1)
theorem qM (x:aU) (cs:List Value) (F:List Nat) (w:World) (h:rd w x cs F) (hw:(x.wt:Int)≤1048576) :
 Calls Tryz.prog 20 #[.agg cs.toArray] w fun e w'=>e = .returned (.bool (iI x))∧Below w.heap.size w w':=by
 have gv:x.wt = kL aR.wt x.V+kL ag.wt x.O:=rfl;have cI:(x.V.length:Int)≤1048576:=by have:=gJ aR.wt x.V;omega
 have vk:(x.O.length:Int)≤1048576:=by have:=gJ ag.wt x.O;omega
 refine Dx x cs F w h cI vk (fun y hy=>?_) (fun y hy=>?_)
 ·obtain ⟨k,hk,rfl⟩:=List.getElem_of_mem hy;exact U6.qm _ (by have:=rM (f:=aR.wt) hk;omega)
 ·obtain ⟨k,hk,rfl⟩:=List.getElem_of_mem hy;exact Xl.qm _ (by have:=rM (f:=ag.wt) hk;have e:ag.wt x.O[k] = nI.wt x.O[k].aS+x.O[k].on.size:=rfl;omega)
def qd (x:aR):aR:=⟨x.name,(BG x.labels).1,x.az,x.mem,x.ax,(Fq x.aT).1⟩
def bf (x:aR):aR × Bool:=if (BG x.labels).2 = true∧(Fq x.aT).2 = true∧Aj (qd x) = true then (qd x,true) else (x,false)
theorem ZP (x:aR):(qd x).wt≤x.wt:=by
 have Z:=St x.labels;have h2:=Zy x.aT;unfold qd aR.wt;dsimp only;omega
def mR (x:nI):nI:=⟨x.name,(BG x.labels).1,x.az,x.mem,x.aw,(jh x.ai).1,(jC x.ae).1⟩
def jf (x:nI):nI × Bool:=if (BG x.labels).2 = true∧(jh x.ai).2 = true∧(jC x.ae).2 = true∧GU (mR x) = true then (mR x,true) else (x,false)
theorem Tx (x:nI):(mR x).wt≤x.wt:=by
 have Z:=St x.labels;have h2:=aAu x.ai;have h3:=aBz x.ae;unfold mR nI.wt;dsimp only;omega
theorem aAo (x:nI):(jf x).1.wt≤x.wt:=by
 unfold jf;split
 ·exact Tx x
 ·exact Nat.le_refl _
theorem aGe {x:nI} (h:(jf x).2 = true):(jf x).1 = mR x∧GU (mR x) = true:=by
 unfold jf at h ⊢;split
 ·rename_i hh;exact ⟨rfl,hh.2.2.2⟩
 ·rename_i hh;rw [if_neg hh] at h;cases h
theorem am.Nr {α β:Type} [bb α] [bb β] {w:World} {B:Nat} {x:α} {y:β} {c1 c2:List Value} {F1 F2:List Nat} (Z:am w B x c1 F1) (h2:am w B y c2 F2) (hd:∀b∈F1,b∉F2):am w B (x,y) (c1++c2) (F1++F2):=by
 exact xr
theorem am.SZ {w:World} {B:Nat} {x:aU} {Ah Ap:Option Addr} {nh ch np cp:Nat} {n p q f:Int} {G:List Nat} (h:am w B x [.slice Ah nh ch,.slice Ap np cp,.int .i64 n,.int .i64 p,.int .i64 q,.int .i64 f] G) :
 ∃Gh Gp,am w B x.V [.slice Ah nh ch] Gh∧am w B x.O [.slice Ap np cp] Gp∧(∀y∈Gh,y∉Gp)∧(∀y∈Gh,y∈G)∧(∀y∈Gp,y∈G):=by
 obtain ⟨⟨c1,c2,F1,F2,e1,rfl,hh,d1,d2,G1,G2,e3,rfl,hp,g1,g2,H1,H2,e5,e6,⟨e7,e8,X⟩,ik⟩,hnd,U,gP⟩:=h;obtain ⟨A,c,rfl,_⟩:=jB hh;obtain ⟨A2,c2',rfl,_⟩:=jB hp;subst e7 e5 e3;simp only [List.cons_append,List.nil_append,List.cons.injEq] at e1;obtain ⟨ea,eb,_⟩:=e1;rw [List.nodup_append,List.nodup_append] at hnd;refine ⟨F1,G1,⟨by rw [ea];exact hh,hnd.1,fun y hy=>U y (by simp [hy]),fun y hy=>gP y (by simp [hy])⟩,⟨by rw [eb];exact hp,hnd.2.1.1,fun y hy=>U y (by simp [hy]),fun y hy=>gP y (by simp [hy])⟩,fun y hy ly=>hnd.2.2 y hy y (by simp [ly]) rfl,fun y hy=>by simp [hy],fun y hy=>by simp [hy]⟩
theorem am.Kp {w:World} {B:Nat} {H:List aR} {Q:List ag} {Ah Ap:Option Addr} {nh ch np cp:Nat} {n p q f:Int} {Gh Gp:List Nat} (h:am w B H [.slice Ah nh ch] Gh) (k:am w B Q [.slice Ap np cp] Gp) (hd:∀y∈Gh,y∉Gp) (X:bt n) (hp:bt p) (hq:bt q) (hf:bt f) :
 am w B (⟨H,Q,n,⟨p,q,f⟩⟩:aU) [.slice Ah nh ch,.slice Ap np cp,.int .i64 n,.int .i64 p,.int .i64 q,.int .i64 f] (Gh++Gp):=by
 refine am.up (B':=B) (fun x:aU=>(x.V,x.O,x.next,x.weights)) ?_ (Nat.le_refl _);have h5:am w B (⟨p,q,f⟩:rZ) ([.int .i64 p]++([.int .i64 q]++[.int .i64 f])) []:=by exact xF
 have h6:=am.cons (jL w n X) h5;have h7:=am.Nr h (am.Nr k h6 (fun b _ U=>by cases U)) (fun b U eo=>hd b U (by simpa using eo));simpa using h7
theorem yp {P:Program} {t e:TypeId} {z:Value} {size bytes:Nat} (hE:DL P t e z size bytes) {o:Oper} {a:Act} {K:Act→World→Prop} {Q:Exit→Act→World→Prop} (s x:Operand)
 (ho:o.op = .call { callee:=.builtin .append,args:=#[s,x],argTypes:=#[t,t] })
 (w:World) (base:Nat) (v:Value) (n:Nat) (xs:List Value) (bi:w.ownsRow base e size v n xs) (hs:a.eval s = v) (c:Nat) (hx:a.eval x = .slice none 0 c)
 (h:∀v' w',w'.ownsRow base e size v' (n+0) (xs++[])→w.grownBy w' v.ownBlock→(v'.ownBlock = v.ownBlock∨v'.ownBlock = some w.heap.size)→K (a.put o.dst v') w'):o.wp P a w K Q:=by
 obtain ⟨ht,hi0,j6,fX⟩:=hE;obtain ⟨i,hi,hz,hsize,U⟩:=info_parts hi0;have FJ:∀(A2:Option Addr) (ar:Nat),v = .slice A2 n ar→n≤ar→o.wp P a w K Q:=by intro A2 ar hv gL;have hr:=run_append_nothing (P:=P) w t t o.type e i ht hi A2 n ar gL (.slice none 0 c) (Src.ofNil w ht c);unfold Oper.wp execOp;simp only [ho,resolve,invoke,builtin,Sem.run_bind,Sem.run_pure,Result.andThen_ok,List.map_toArray,List.map_cons,List.map_nil,hs,hv,hx,hr];subst hv;exact h _ w (by simpa using bi) ⟨rfl,rfl,rfl,Nat.le_refl _,fun _ _ _=>rfl⟩ (.inl rfl)
 rcases bi.2 with ⟨hv,rU⟩ | ⟨g,ar,dT,hv,_,_,gL,_⟩
 ·exact FJ none 0 (by rw [hv,rU]) J
 ·exact FJ _ ar hv gL
theorem S4 {P:Program} {t e:TypeId} {z:Value} {size bytes:Nat} (hE:DL P t e z size bytes) {ops:Array Oper} {rest:List Oper} {o:Oper} {a:Act} {Q:Exit→Act→World→Prop} (rR:o.guard = none) (s x:Operand)
 (ho:o.op = .call { callee:=.builtin .append,args:=#[s,x],argTypes:=#[t,t] })
 (w:World) (base:Nat) (v:Value) (n:Nat) (xs:List Value) (bi:w.ownsRow base e size v n xs) (hs:a.eval s = v) (c:Nat) (hx:a.eval x = .slice none 0 c)
 (h:∀v' w',w'.ownsRow base e size v' (n+0) (xs++[])→w.grownBy w' v.ownBlock→(v'.ownBlock = v.ownBlock∨v'.ownBlock = some w.heap.size)→wpList P ops Q rest (a.put o.dst v') w'):wpList P ops Q (o :: rest) a w :=
 wpList_plain rR fun K hK=>yp hE s x ho w base v n xs bi hs c hx fun v' w' Z h2 h3=>hK _ _ (h v' w' Z h2 h3)
theorem Yu {α:Type} [bb α] {w:World} {B c i:Nat} {u:Value} {x:α} {cs:List Value} {F:List Nat} (h:am w B x cs F) (hF:∀y∈F,y≠c):am (w.setCell ⟨c,i,none⟩ u) B x cs F :=
 h.bm (fun y hy=>Below.heap_setCell _ _ _ _ yd) ew
def yq (nm:ByteArray) (h:aR):Bool:=Op.bytesLess h.name.toList nm.toList
def fL (nm:ByteArray) (xs:List aR):Nat:=(xs.takeWhile (yq nm)).length
theorem Ns (nm:ByteArray) (xs:List aR):fL nm xs≤xs.length:=by
 unfold fL;induction xs with
 | nil=>simp
 | cons a l ih=>rw [List.takeWhile_cons];split <;> simp <;> omega
theorem Nv {nm:ByteArray} : ∀{xs:List aR} {k:Nat},k < fL nm xs→∀(hk:k < xs.length),yq nm xs[k] = true
 | [],_,h,hk=>absurd hk S'
 | a :: l,0,h,hk=>by
   unfold fL at h;rw [List.takeWhile_cons] at h;split at h
   ·rename_i h2;simpa using h2
   ·simp at h
 | a :: l,k+1,h,hk=>by
   unfold fL at h;rw [List.takeWhile_cons] at h;split at h
   ·simp only [List.getElem_cons_succ];exact Nv (xs:=l) (by unfold fL;simpa using h) KW
   ·simp at h
theorem Nw {nm:ByteArray} : ∀{xs:List aR} (hk:fL nm xs < xs.length),yq nm xs[fL nm xs] = false
 | [],hk=>absurd hk S'
 | a :: l,hk=>by
   by_cases h:yq nm a = true
   ·have e:fL nm (a :: l) = fL nm l+1:=(by unfold fL;rw [List.takeWhile_cons,if_pos h];rfl);have:=Nw (nm:=nm) (xs:=l) (by rw [e] at hk;simpa using hk);simp only [e,List.getElem_cons_succ];exact this
   ·have e:fL nm (a :: l) = 0:=(by unfold fL;rw [List.takeWhile_cons,if_neg h];rfl);simp only [e,List.getElem_cons_zero];simpa using h
theorem Nx {nm:ByteArray} {xs:List aR} {k:Nat} (Z:k≤fL nm xs) (h2:∀hk:k < xs.length,yq nm xs[k] = false):k = fL nm xs:=by
 have:=Ns nm xs;by_cases h:k < fL nm xs
 ·have h3:=Nv h J;rw [h2 J] at h3;cases h3
 ·omega
def mu (x:aU) (u:aR):aU × Int :=
 if iI x = true∧(bf u).2 = true then (if 0≤pK (iM (bf u).1.name) x.V then (x,2) else if 8≤x.V.length then (x,4) else (⟨eH (fL (bf u).1.name x.V) (bf u).1 x.V,x.O,x.next,x.weights⟩,0)) else (x,1)
def yZ (nm:ByteArray) (h:ag):Bool:=Op.bytesLess h.aS.name.toList nm.toList
def eJ (nm:ByteArray) (xs:List ag):Nat:=(xs.takeWhile (yZ nm)).length
theorem N5 (nm:ByteArray) (xs:List ag):eJ nm xs≤xs.length:=by
 unfold eJ;induction xs with
 | nil=>simp
 | cons a l ih=>rw [List.takeWhile_cons];split <;> simp <;> omega
theorem N6 {nm:ByteArray} : ∀{xs:List ag} {k:Nat},k < eJ nm xs→∀(hk:k < xs.length),yZ nm xs[k] = true
 | [],_,h,hk=>absurd hk S'
 | a :: l,0,h,hk=>by
   unfold eJ at h;rw [List.takeWhile_cons] at h;split at h
   ·rename_i h2;simpa using h2
   ·simp at h
 | a :: l,k+1,h,hk=>by
   unfold eJ at h;rw [List.takeWhile_cons] at h;split at h
   ·simp only [List.getElem_cons_succ];exact N6 (xs:=l) (by unfold eJ;simpa using h) KW
   ·simp at h
theorem N8 {nm:ByteArray} : ∀{xs:List ag} (hk:eJ nm xs < xs.length),yZ nm xs[eJ nm xs] = false
 | [],hk=>absurd hk S'
 | a :: l,hk=>by
   by_cases h:yZ nm a = true
   ·have e:eJ nm (a :: l) = eJ nm l+1:=(by unfold eJ;rw [List.takeWhile_cons,if_pos h];rfl);have:=N8 (nm:=nm) (xs:=l) (by rw [e] at hk;simpa using hk);simp only [e,List.getElem_cons_succ];exact this
   ·have e:eJ nm (a :: l) = 0:=(by unfold eJ;rw [List.takeWhile_cons,if_neg h];rfl);simp only [e,List.getElem_cons_zero];simpa using h
theorem Ob {nm:ByteArray} {xs:List ag} {k:Nat} (Z:k≤eJ nm xs) (h2:∀hk:k < xs.length,yZ nm xs[k] = false):k = eJ nm xs:=by
 have:=N5 nm xs;by_cases h:k < eJ nm xs
 ·have h3:=N6 h J;rw [h2 J] at h3;cases h3
 ·omega
def cT (x:aU) (n:nI):ag:=⟨n,⟨#[]⟩,x.next⟩
theorem aAf {x:aU} (h:iI x = true):1≤x.next∧x.next≤1000000000:=by
 unfold iI Em at h;simp only [Bool.and_eq_true,decide_eq_true_eq] at h;exact h.1.2.2.1
def gl (x:aU) (u:nI):aU × Int :=
 if iI x = true∧(jf u).2 = true then (if 0≤pK (CG (jf u).1.name) x.O then (x,2) else if 12≤x.O.length∨1000000000≤x.next then (x,4) else (⟨x.V,eH (eJ (jf u).1.name x.O) (cT x (jf u).1) x.O,x.next+1,x.weights⟩,0)) else (x,1)
theorem am.cT {w:World} {B:Nat} {x:aU} {n:nI} {cs:List Value} {G:List Nat} (h:am w B n cs G) (X:bt x.next):am w B (cT x n) (cs++[.string ⟨#[]⟩,.int .i64 x.next]) G:=by
 have h5:am w B ((⟨#[]⟩:ByteArray),x.next) ([.string ⟨#[]⟩]++[.int .i64 x.next]) []:=am.cons (ed w ⟨#[]⟩ (rV (Nat.zero_le _))) (am.cQ (jL w x.next X));have h6:=am.Nr h h5 (fun _ _ U=>by cases U);rw [List.append_nil] at h6;exact am.up (B':=B) (fun x:ag=>(x.aS,x.on,x.seq)) h6 (Nat.le_refl _)
end Go.Proofs.YtajbbmembionpaaGreat
