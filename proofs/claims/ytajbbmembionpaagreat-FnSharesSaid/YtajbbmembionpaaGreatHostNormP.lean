/- HostNormal in plain Lean. No condition. -/
import Derived.Test.YtajbbmembionpaaGreatSortLabelsP
import Derived.Test.YtajbbmembionpaaGreatSortTaintsS
import Derived.Deep.CutRange
namespace Go.Proofs.YtajbbmembionpaaGreat
open Go.ChangeShapes Go.WideShapes Go.ChangeAt Go.RowKit
set_option linter.unusedVariables false
set_option linter.unusedSimpArgs false
set_option maxHeartbeats 8000000
set_option maxRecDepth 100000
def qn (x:ba):ba:=⟨x.name,(BG x.labels).1,x.az,x.mem,x.av,(Fq x.aT).1⟩
def bf (x:ba):ba × Bool:=if (BG x.labels).2 = true∧(Fq x.aT).2 = true∧Aj (qn x) = true then (qn x,true) else (x,false)
theorem W2 (x:ba):(qn x).wt≤x.wt:=by
 have h1:=QN x.labels;have h2:=WM x.aT;unfold qn ba.wt;dsimp only;omega
def qR (x:nI):nI:=⟨x.name,(BG x.labels).1,x.az,x.mem,x.aw,(jD x.ai).1,(j6 x.ae).1⟩
def jf (x:nI):nI × Bool:=if (BG x.labels).2 = true∧(jD x.ai).2 = true∧(j6 x.ae).2 = true∧GU (qR x) = true then (qR x,true) else (x,false)
theorem YN (x:nI):(qR x).wt≤x.wt:=by
 have h1:=QN x.labels;have h2:=YI x.ai;have h3:=Yu x.ae;unfold qR nI.wt;dsimp only;omega
theorem am.Mc {α β:Type} [bc α] [bc β] {w:World} {B:Nat} {x:α} {y:β} {c1 c2:List Value} {F1 F2:List Nat} (h1:am w B x c1 F1) (h2:am w B y c2 F2) (hd:∀b∈F1,b∉F2):am w B (x,y) (c1++c2) (F1++F2):=by
 exact xp
theorem am.Rb {w:World} {B:Nat} {x:aU} {Ah Ap:Option Addr} {nh ch np cp:Nat} {n p q f:Int} {G:List Nat} (h:am w B x [.slice Ah nh ch,.slice Ap np cp,.int .i64 n,.int .i64 p,.int .i64 q,.int .i64 f] G) :
 ∃Gh Gp,am w B x.aa [.slice Ah nh ch] Gh∧am w B x.V [.slice Ap np cp] Gp∧(∀y∈Gh,y∉Gp)∧(∀y∈Gh,y∈G)∧(∀y∈Gp,y∈G):=by
 obtain ⟨⟨c1,c2,F1,F2,e1,rfl,hh,d1,d2,G1,G2,e3,rfl,hp,g1,g2,H1,H2,e5,e6,⟨e7,e8,Z⟩,gN⟩,hnd,X,gp⟩:=h;obtain ⟨A,c,rfl,_⟩:=jB hh;obtain ⟨A2,c2',rfl,_⟩:=jB hp;subst e7 e5 e3;simp only [List.cons_append,List.nil_append,List.cons.injEq] at e1;obtain ⟨ea,eb,_⟩:=e1;rw [List.nodup_append,List.nodup_append] at hnd;refine ⟨F1,G1,⟨by rw [ea];exact hh,hnd.1,fun y hy=>X y (by simp [hy]),fun y hy=>gp y (by simp [hy])⟩,⟨by rw [eb];exact hp,hnd.2.1.1,fun y hy=>X y (by simp [hy]),fun y hy=>gp y (by simp [hy])⟩,fun y hy lL=>hnd.2.2 y hy y (by simp [lL]) rfl,fun y hy=>by simp [hy],fun y hy=>by simp [hy]⟩
theorem am.IR {w:World} {B:Nat} {H:List ba} {Q:List ag} {Ah Ap:Option Addr} {nh ch np cp:Nat} {n p q f:Int} {Gh Gp:List Nat} (h:am w B H [.slice Ah nh ch] Gh) (k:am w B Q [.slice Ap np cp] Gp) (hd:∀y∈Gh,y∉Gp) (Z:br n) (hp:br p) (hq:br q) (hf:br f) :
 am w B (⟨H,Q,n,⟨p,q,f⟩⟩:aU) [.slice Ah nh ch,.slice Ap np cp,.int .i64 n,.int .i64 p,.int .i64 q,.int .i64 f] (Gh++Gp):=by
 refine am.up (B':=B) (fun x:aU=>(x.aa,x.V,x.next,x.weights)) ?_ (Nat.le_refl _);have h5:am w B (⟨p,q,f⟩:rZ) ([.int .i64 p]++([.int .i64 q]++[.int .i64 f])) []:=by exact xA
 have h6:=am.cons (jL w n Z) h5;have h7:=am.Mc h (am.Mc k h6 (fun b _ X=>by cases X)) (fun b X ek=>hd b X (by simpa using ek));simpa using h7
theorem ym {P:Program} {t e:TypeId} {z:Value} {size bytes:Nat} (hE:DL P t e z size bytes) {o:Oper} {a:Act} {K:Act→World→Prop} {Q:Exit→Act→World→Prop} (s x:Operand)
 (ho:o.op = .call { callee:=.builtin .append,args:=#[s,x],argTypes:=#[t,t] })
 (w:World) (base:Nat) (v:Value) (n:Nat) (xs:List Value) (bk:w.ownsRow base e size v n xs) (hs:a.eval s = v) (c:Nat) (hx:a.eval x = .slice none 0 c)
 (h:∀v' w',w'.ownsRow base e size v' (n+0) (xs++[])→w.grownBy w' v.ownBlock→(v'.ownBlock = v.ownBlock∨v'.ownBlock = some w.heap.size)→K (a.put o.dst v') w'):o.wp P a w K Q:=by
 obtain ⟨ht,hi0,lB,gT⟩:=hE;obtain ⟨i,hi,hz,hsize,X⟩:=info_parts hi0;have EV:∀(A2:Option Addr) (aq:Nat),v = .slice A2 n aq→n≤aq→o.wp P a w K Q:=by intro A2 aq hv gv;have hr:=run_append_nothing (P:=P) w t t o.type e i ht hi A2 n aq gv (.slice none 0 c) (Src.ofNil w ht c);unfold Oper.wp execOp;simp only [ho,resolve,invoke,builtin,Sem.run_bind,Sem.run_pure,Result.andThen_ok,List.map_toArray,List.map_cons,List.map_nil,hs,hv,hx,hr];subst hv;exact h _ w (by simpa using bk) ⟨rfl,rfl,rfl,Nat.le_refl _,fun _ _ _=>rfl⟩ (.inl rfl)
 rcases bk.2 with ⟨hv,tD⟩ | ⟨g,aq,dx,hv,_,_,gv,_⟩
 ·exact EV none 0 (by rw [hv,tD]) J
 ·exact EV _ aq hv gv
theorem Rc {P:Program} {t e:TypeId} {z:Value} {size bytes:Nat} (hE:DL P t e z size bytes) {ops:Array Oper} {rest:List Oper} {o:Oper} {a:Act} {Q:Exit→Act→World→Prop} (sl:o.guard = none) (s x:Operand)
 (ho:o.op = .call { callee:=.builtin .append,args:=#[s,x],argTypes:=#[t,t] })
 (w:World) (base:Nat) (v:Value) (n:Nat) (xs:List Value) (bk:w.ownsRow base e size v n xs) (hs:a.eval s = v) (c:Nat) (hx:a.eval x = .slice none 0 c)
 (h:∀v' w',w'.ownsRow base e size v' (n+0) (xs++[])→w.grownBy w' v.ownBlock→(v'.ownBlock = v.ownBlock∨v'.ownBlock = some w.heap.size)→wpList P ops Q rest (a.put o.dst v') w'):wpList P ops Q (o :: rest) a w :=
 wpList_plain sl fun K hK=>ym hE s x ho w base v n xs bk hs c hx fun v' w' h1 h2 h3=>hK _ _ (h v' w' h1 h2 h3)
theorem VJ {α:Type} [bc α] {w:World} {B c i:Nat} {u:Value} {x:α} {cs:List Value} {F:List Nat} (h:am w B x cs F) (hF:∀y∈F,y≠c):am (w.setCell ⟨c,i,none⟩ u) B x cs F :=
 h.bs (fun y hy=>Below.heap_setCell _ _ _ _ x9) eC
def yn (nm:ByteArray) (h:ba):Bool:=Op.bytesLess h.name.toList nm.toList
def fw (nm:ByteArray) (xs:List ba):Nat:=(xs.takeWhile (yn nm)).length
theorem Md (nm:ByteArray) (xs:List ba):fw nm xs≤xs.length:=by
 unfold fw;induction xs with
 | nil=>simp
 | cons a l ih=>rw [List.takeWhile_cons];split <;> simp <;> omega
theorem Me {nm:ByteArray} : ∀{xs:List ba} {k:Nat},k < fw nm xs→∀(hk:k < xs.length),yn nm xs[k] = true
 | [],_,h,hk=>absurd hk S'
 | a :: l,0,h,hk=>by
   unfold fw at h;rw [List.takeWhile_cons] at h;split at h
   ·rename_i h2;simpa using h2
   ·simp at h
 | a :: l,k+1,h,hk=>by
   unfold fw at h;rw [List.takeWhile_cons] at h;split at h
   ·simp only [List.getElem_cons_succ];exact Me (xs:=l) (by unfold fw;simpa using h) Jq
   ·simp at h
theorem Mf {nm:ByteArray} : ∀{xs:List ba} (hk:fw nm xs < xs.length),yn nm xs[fw nm xs] = false
 | [],hk=>absurd hk S'
 | a :: l,hk=>by
   by_cases h:yn nm a = true
   ·have e:fw nm (a :: l) = fw nm l+1:=(by unfold fw;rw [List.takeWhile_cons,if_pos h];rfl);have:=Mf (nm:=nm) (xs:=l) (by rw [e] at hk;simpa using hk);simp only [e,List.getElem_cons_succ];exact this
   ·have e:fw nm (a :: l) = 0:=(by unfold fw;rw [List.takeWhile_cons,if_neg h];rfl);simp only [e,List.getElem_cons_zero];simpa using h
theorem Mg {nm:ByteArray} {xs:List ba} {k:Nat} (h1:k≤fw nm xs) (h2:∀hk:k < xs.length,yn nm xs[k] = false):k = fw nm xs:=by
 have:=Md nm xs;by_cases h:k < fw nm xs
 ·have h3:=Me h J;rw [h2 J] at h3;cases h3
 ·omega
def mA (x:aU) (u:ba):aU × Int :=
 if iI x = true∧(bf u).2 = true then (if 0≤pK (iM (bf u).1.name) x.aa then (x,2) else if 8≤x.aa.length then (x,4) else (⟨fJ (fw (bf u).1.name x.aa) (bf u).1 x.aa,x.V,x.next,x.weights⟩,0)) else (x,1)
def yV (nm:ByteArray) (h:ag):Bool:=Op.bytesLess h.aS.name.toList nm.toList
def fc (nm:ByteArray) (xs:List ag):Nat:=(xs.takeWhile (yV nm)).length
theorem MG (nm:ByteArray) (xs:List ag):fc nm xs≤xs.length:=by
 unfold fc;induction xs with
 | nil=>simp
 | cons a l ih=>rw [List.takeWhile_cons];split <;> simp <;> omega
theorem MH {nm:ByteArray} : ∀{xs:List ag} {k:Nat},k < fc nm xs→∀(hk:k < xs.length),yV nm xs[k] = true
 | [],_,h,hk=>absurd hk S'
 | a :: l,0,h,hk=>by
   unfold fc at h;rw [List.takeWhile_cons] at h;split at h
   ·rename_i h2;simpa using h2
   ·simp at h
 | a :: l,k+1,h,hk=>by
   unfold fc at h;rw [List.takeWhile_cons] at h;split at h
   ·simp only [List.getElem_cons_succ];exact MH (xs:=l) (by unfold fc;simpa using h) Jq
   ·simp at h
theorem MI {nm:ByteArray} : ∀{xs:List ag} (hk:fc nm xs < xs.length),yV nm xs[fc nm xs] = false
 | [],hk=>absurd hk S'
 | a :: l,hk=>by
   by_cases h:yV nm a = true
   ·have e:fc nm (a :: l) = fc nm l+1:=(by unfold fc;rw [List.takeWhile_cons,if_pos h];rfl);have:=MI (nm:=nm) (xs:=l) (by rw [e] at hk;simpa using hk);simp only [e,List.getElem_cons_succ];exact this
   ·have e:fc nm (a :: l) = 0:=(by unfold fc;rw [List.takeWhile_cons,if_neg h];rfl);simp only [e,List.getElem_cons_zero];simpa using h
theorem MJ {nm:ByteArray} {xs:List ag} {k:Nat} (h1:k≤fc nm xs) (h2:∀hk:k < xs.length,yV nm xs[k] = false):k = fc nm xs:=by
 have:=MG nm xs;by_cases h:k < fc nm xs
 ·have h3:=MH h J;rw [h2 J] at h3;cases h3
 ·omega
def d8 (x:aU) (n:nI):ag:=⟨n,⟨#[]⟩,x.next⟩
theorem YO {x:aU} (h:iI x = true):1≤x.next∧x.next≤1000000000:=by
 unfold iI Em at h;simp only [Bool.and_eq_true,decide_eq_true_eq] at h;exact h.1.2.2.1
def lM (x:aU) (u:nI):aU × Int :=
 if iI x = true∧(jf u).2 = true then (if 0≤pK (CG (jf u).1.name) x.V then (x,2) else if 12≤x.V.length∨1000000000≤x.next then (x,4) else (⟨x.aa,fJ (fc (jf u).1.name x.V) (d8 x (jf u).1) x.V,x.next+1,x.weights⟩,0)) else (x,1)
theorem am.d8 {w:World} {B:Nat} {x:aU} {n:nI} {cs:List Value} {G:List Nat} (h:am w B n cs G) (Z:br x.next):am w B (d8 x n) (cs++[.string ⟨#[]⟩,.int .i64 x.next]) G:=by
 have h5:am w B ((⟨#[]⟩:ByteArray),x.next) ([.string ⟨#[]⟩]++[.int .i64 x.next]) []:=am.cons (dE w ⟨#[]⟩ (rV (Nat.zero_le _))) (am.cK (jL w x.next Z));have h6:=am.Mc h h5 (fun _ _ X=>by cases X);rw [List.append_nil] at h6;exact am.up (B':=B) (fun x:ag=>(x.aS,x.on,x.seq)) h6 (Nat.le_refl _)
theorem IM (x:ba) (cs:List Value) (F:List Nat) (w:World) (h:rd w x cs F) (hw:(x.wt:Int)≤1048576) :
 Calls Tryz.prog 159 #[.agg cs.toArray] w fun e w'=>∃ds G,e = .returned (.tuple #[.agg ds.toArray,.bool (bf x).2])∧am w' w.heap.size (bf x).1 ds G∧Below w.heap.size w w':=by
 have h0:=h;obtain ⟨gu,gy,jw,kJ,kK,qU,aE,qp,hname,dO,vg,cB,uI,jq⟩:=iy h;subst aE;clear qp h;have HX:=I h0;have Du:=I hw;clear h0;have im:x.wt = x.name.size+kL ap.wt x.labels+kL iU.wt x.aT:=rfl;have mP:(x.labels.length:Int)≤1048576:=by have:=gJ ap.wt x.labels;omega
 have dp:(x.aT.length:Int)≤1048576:=by have:=gJ iU.wt x.aT;omega
 have lI:∀l∈x.labels,(l.key.size:Int)≤1048576∧(l.value.size:Int)≤1048576:=fun l hl=>by have h9:=Bq (f:=ap.wt) hl;have h8:ap.wt l = l.key.size+l.value.size:=rfl;omega
 have lz:∀l∈x.aT,(l.key.size:Int)≤1048576∧(l.value.size:Int)≤1048576:=fun l hl=>by have h9:=Bq (f:=iU.wt) hl;have h8:iU.wt l = l.key.size+l.value.size:=rfl;omega
 have S0:pA w (((w.alloc (.cells #[.string x.name,.slice gu x.labels.length gy,.int .i64 x.az,.int .i64 x.mem,.int .i64 x.av,.slice kJ x.aT.length kK] 47)).alloc (.cells #[.string ⟨#[]⟩,.slice none 0 0,.int .i64 0,.int .i64 0,.int .i64 0,.slice none 0 0] 47)).alloc (.cells #[.string x.name,.slice gu x.labels.length gy,.int .i64 x.az,.int .i64 x.mem,.int .i64 x.av,.slice kJ x.aT.length kK] 47)) [.string x.name,.slice gu x.labels.length gy,.int .i64 x.az,.int .i64 x.mem,.int .i64 x.av,.slice kJ x.aT.length kK] [.string ⟨#[]⟩,.slice none 0 0,.int .i64 0,.int .i64 0,.int .i64 0,.slice none 0 0] [.string x.name,.slice gu x.labels.length gy,.int .i64 x.az,.int .i64 x.mem,.int .i64 x.av,.slice kJ x.aT.length kK]:=pA.new w _ _ _ 47 47 47;obtain ⟨v0,p'⟩:∃v0,(((w.alloc (.cells #[.string x.name,.slice gu x.labels.length gy,.int .i64 x.az,.int .i64 x.mem,.int .i64 x.av,.slice kJ x.aT.length kK] 47)).alloc (.cells #[.string ⟨#[]⟩,.slice none 0 0,.int .i64 0,.int .i64 0,.int .i64 0,.slice none 0 0] 47)).alloc (.cells #[.string x.name,.slice gu x.labels.length gy,.int .i64 x.az,.int .i64 x.mem,.int .i64 x.av,.slice kJ x.aT.length kK] 47)) = v0:=⟨_,rfl⟩;rw [p'] at S0;have pJ:=I p';have i1:=S0.cM.cell (i:=1) (u:=.slice gu x.labels.length gy) rfl;have j1:=S0.ob.lt;clear p' hw im;go_enter Tryz.func159,Tryz.ntmps159;go_wp2_with fail
 rw [pJ.out];clear pJ;refine (Ri x.labels _ _ _ v0 (dO.ext S0.aD) mP lI).mono ?_;obtain ⟨L1,b1,e1⟩:∃L b,BG x.labels = (L,b):=⟨_,_,rfl⟩;rw [e1];have E1:=I e1;clear e1 i1;rintro e w1 ⟨A1,c1,G1,rfl,jX,bo⟩;have T1:=S0.ext bo;replace jX:=jX.mono (B':=w.heap.size+1+1+1) J;obtain ⟨z1,cE⟩:∃z,z = w1.heap.size:=⟨_,rfl⟩;have yr:=I (show ∀b∈G1,b < z1 from fun b X=>by rw [cE];exact jX.lt b X);have Mp:w.heap.size+1+1+1≤z1:=by have:=bo.size;omega
 clear bo;have i2:=T1.cM.cell (i:=5) (u:=.slice kJ x.aT.length kK) rfl;have j2:=T1.ob.lt;go_wp2_with fail
 clear S0;refine (XP x.aT _ _ _ w1 (jq.ext T1.aD) dp lz).mono ?_;obtain ⟨L2,b2,e2⟩:∃L b,Fq x.aT = (L,b):=⟨_,_,rfl⟩;rw [e2];have E2:=I e2;clear e2 i2;rintro e w2 ⟨A2,c2,G2,rfl,bI,ar⟩;have T2:=T1.ext ar;replace bI:=bI.mono (B':=z1) (by have:=cE;omega);replace jX:=jX.ext ar;obtain ⟨z2,cw⟩:∃z,z = w2.heap.size:=⟨_,rfl⟩;have tF:=I (show ∀b∈G2,b < z2 from fun b X=>by rw [cw];exact bI.lt b X);have Mq:z1≤z2:=by have:=ar.size;omega
 clear ar;have k1:=T2.ob.cell (i:=1) (u:=.slice gu x.labels.length gy) rfl;have f1:=T2.ob.fz 1;have S1:=T2.put 1 (.slice A1 L1.length c1);replace jX:=jX.setCell (p:=⟨w.heap.size+1+1,1,none⟩) bA (.slice A1 L1.length c1);replace bI:=bI.setCell (p:=⟨w.heap.size+1+1,1,none⟩) bA (.slice A1 L1.length c1);have k2:=T2.ob.cell (i:=5) (u:=.slice kJ x.aT.length kK) rfl;have f2:=T2.ob.fz 5;have S2:=S1.put 5 (.slice A2 L2.length c2);replace jX:=jX.setCell (p:=⟨w.heap.size+1+1,5,none⟩) bA (.slice A2 L2.length c2);replace bI:=bI.setCell (p:=⟨w.heap.size+1+1,5,none⟩) bA (.slice A2 L2.length c2);have l9:=T2.ob.lt;go_upto_region 6 with fail
 obtain ⟨v2,hv⟩:∃v,((w2.setCell ⟨w.heap.size+1+1,1,none⟩ (.slice A1 L1.length c1)).setCell ⟨w.heap.size+1+1,5,none⟩ (.slice A2 L2.length c2)) = v:=⟨_,rfl⟩;have hs:v2.heap.size = z2:=by rw [← hv,cw];simp [World.setCell]
 rw [hv] at S2 jX bI;try rw [hv]
 clear hv T2 k1 f1 k2 f2 l9 cw;have cw:=hs;clear hs
 have fY:=I (show am v2 (w.heap.size+1+1+1) (⟨x.name,L1,x.az,x.mem,x.av,L2⟩:ba) [.string x.name,.slice A1 L1.length c1,.int .i64 x.az,.int .i64 x.mem,.int .i64 x.av,.slice A2 L2.length c2] (G1++G2) from by
  refine am.up (B':=w.heap.size+1+1+1) (fun x:ba=>(x.name,x.labels,x.az,x.mem,x.av,x.aT)) ?_ (Nat.le_refl _);refine am.cons (c1:=[.string x.name]) (dE _ x.name (rV hname)) ?_;refine am.ez (B2:=z1) (c1:=[.slice A1 L1.length c1]) (F1:=G1) jX ?_ J yr.out;refine am.cons (c1:=[.int .i64 x.az]) (jL _ x.az vg) ?_;refine am.cons (c1:=[.int .i64 x.mem]) (jL _ x.mem cB) ?_;refine am.cons (c1:=[.int .i64 x.av]) (jL _ x.av uI) ?_
  exact bI)
 have HN:=I (show qn x = ⟨x.name,L1,x.az,x.mem,x.av,L2⟩ by unfold qn;rw [E1.out,E2.out]);have HR:=I (show bf x = if b1 = true∧b2 = true∧Aj (qn x) = true then (qn x,true) else (x,false) by unfold bf;rw [E1.out,E2.out]);have HS:=I S2;have Qo:=I (show ((qn x).wt:Int)≤1048576 by have:=W2 x;have:=Du.out;omega);clear jX bI S2;have q_:=HS.out.ob.lt;obtain ⟨p0,p1,p2,p3,p4,p5⟩:=dr HS.out.cM;cases b1 with
 | false =>have nG:=I (show bf x = (x,false) by rw [HR.out];exact if_neg (by rintro ⟨hh,_⟩;cases hh));exact CP
 | true =>
   cases b2 with
   | false =>have nG:=I (show bf x = (x,false) by rw [HR.out];exact if_neg (by rintro ⟨_,hh,_⟩;cases hh));exact CP
   | true =>
     have XQ:=HN;cases hr:Aj (qn x) with
     | false =>
       have jS:=I hr;obtain ⟨q0,q1,q2,q3,q4,q5⟩:=dr HS.out.ob;go_wp2_with fail
       refine (tZ (⟨x.name,L1,x.az,x.mem,x.av,L2⟩:ba) _ _ v2 fY.out.rd Ju).mono ?_;rw [← HN.out,jS.out];rintro e w7 ⟨rfl,bC⟩;have iu:=I (HS.out.ext bC);have I1:=I (fY.out.ext bC);clear p0 p1 p2 p3 p4 p5 q0 q1 q2 q3 q4 q5 q_ bC;have nG:=I (show bf x = (x,false) by rw [HR.out];exact if_neg (by rintro ⟨_,_,hh⟩;rw [jS.out] at hh;cases hh));have rr:=iu.out.cM.lt;obtain ⟨p0,p1,p2,p3,p4,p5⟩:=dr iu.out.cM;go_wp2_with fail
       refine (Lj x _ _ w7 (IJ HX.out iu.out.aD) mP dp).mono ?_;rintro e w8 ⟨Lf,G8,rfl,sV,ki⟩;have T8:=iu.out.ext ki;have SY:=sV;obtain ⟨pG,aHA,aJp,aIQ,aIR,aCm,ayd,hF9,aye,aJq,aAR,aAS,aDQ,aCn⟩:=iy sV.rd;subst ayd;clear hF9 sV;obtain ⟨r0,r1,r2,r3,r4,r5⟩:=dr T8.rb;have rf:=T8.rb.fz;have rl:=T8.rb.lt;have po:=I SY;have Ai:=I T8;have Lg:w.heap.size+1 < w7.heap.size:=iu.out.rb.lt;clear SY T8 ki;go_wp2_with fail
       try dsimp only
       iterate 60 (first | go_step | skip)
       refine bodyPost_ret (v:=.tuple #[.agg #[.string x.name,.slice pG x.labels.length aHA,.int .i64 x.az,.int .i64 x.mem,.int .i64 x.av,.slice aIQ x.aT.length aIR],.bool false]) (by simp [results,Tryz.results159,go_sem, *]) rfl ⟨[.string x.name,.slice pG x.labels.length aHA,.int .i64 x.az,.int .i64 x.mem,.int .i64 x.av,.slice aIQ x.aT.length aIR],G8,by rw [nG.out];try rfl,?_,?_⟩
       ·rw [nG.out];refine am.mono (B:=w7.heap.size) ?_ J;exact Ak
       ·exact IK
     | true =>
       have jS:=I hr;obtain ⟨q0,q1,q2,q3,q4,q5⟩:=dr HS.out.ob;go_wp2_with fail
       refine (tZ (⟨x.name,L1,x.az,x.mem,x.av,L2⟩:ba) _ _ v2 fY.out.rd Ju).mono ?_;rw [← HN.out,jS.out];rintro e w7 ⟨rfl,bC⟩;have iu:=I (HS.out.ext bC);have I1:=I (fY.out.ext bC);clear p0 p1 p2 p3 p4 p5 q0 q1 q2 q3 q4 q5 q_ bC;have xt:=I (show bf x = (qn x,true) by rw [HR.out];exact if_pos (by simp [jS.out]));obtain ⟨q0,q1,q2,q3,q4,q5⟩:=dr iu.out.ob;obtain ⟨r0,r1,r2,r3,r4,r5⟩:=dr iu.out.rb;have rf:=iu.out.rb.fz;have rl:=iu.out.rb.lt;have ql:=iu.out.ob.lt;go_wp2_with fail
       try dsimp only
       iterate 60 (first | go_step | skip)
       refine bodyPost_ret (v:=.tuple #[.agg #[.string x.name,.slice A1 L1.length c1,.int .i64 x.az,.int .i64 x.mem,.int .i64 x.av,.slice A2 L2.length c2],.bool true]) (by simp [results,Tryz.results159,go_sem, *]) rfl ⟨[.string x.name,.slice A1 L1.length c1,.int .i64 x.az,.int .i64 x.mem,.int .i64 x.av,.slice A2 L2.length c2],G1++G2,by rw [xt.out];try rfl,?_,?_⟩
       ·exact DA
       ·exact (by repeat (first | with_reducible exact iu.out.aD | with_reducible refine aC ?_ bA _))
end Go.Proofs.YtajbbmembionpaaGreat
