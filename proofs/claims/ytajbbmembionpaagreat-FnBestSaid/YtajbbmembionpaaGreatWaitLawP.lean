/- What FnWaits asks, in plain Lean. No condition. -/
import Derived.Test.YtajbbmembionpaaGreatMarkOn
import Derived.Test.YtajbbmembionpaaGreatCopyH
import Derived.Test.YtajbbmembionpaaGreatSortTaintsS
import Derived.Deep.CutRange
namespace Go.Proofs.YtajbbmembionpaaGreat
open Go.ChangeShapes Go.WideShapes Go.ChangeAt Go.RowKit
set_option linter.unusedVariables false
set_option linter.unusedSimpArgs false
set_option maxHeartbeats 8000000
set_option maxRecDepth 100000
theorem Z7 {β:Type} {lt:β→β→Bool} (y:β):∀l:List β,(OM lt y l).Perm (y :: l)
 | []=>.refl _
 | x :: l=>by
   unfold OM;split
   ·exact .refl _
   ·exact ((Z7 y l).cons x).trans (.swap ..)
theorem Z8 {β:Type} {lt:β→β→Bool} : ∀ys acc:List β,(aL lt acc ys).Perm (acc++ys)
 | [],acc=>by rw [List.append_nil];exact .refl _
 | y :: ys,acc=>by
   have h:=Z8 (lt:=lt) ys (OM lt y acc);refine h.trans ?_;have h1:(OM lt y acc++ys).Perm ((y :: acc)++ys):=(Z7 y acc).append_right ys;exact h1.trans (List.perm_middle.symm)
def rS (x:aM):aM:=⟨x.name,(BG x.labels).1,x.av,x.mem,x.slots,(Fq x.aT).1⟩
def bf (x:aM):aM × Bool:=if (BG x.labels).2 = true∧(Fq x.aT).2 = true∧Aj (rS x) = true then (rS x,true) else (x,false)
theorem aCl (x:aM):(rS x).wt≤x.wt:=by
 have h1:=Vj x.labels;have h2:=azM x.aT;unfold rS aM.wt;dsimp only;omega
def sf (x:nI):nI:=⟨x.name,(BG x.labels).1,x.av,x.mem,x.ar,(kd x.ag).1,(kA x.ae).1⟩
def jf (x:nI):nI × Bool:=if (BG x.labels).2 = true∧(kd x.ag).2 = true∧(kA x.ae).2 = true∧GU (sf x) = true then (sf x,true) else (x,false)
theorem aDX (x:nI):(sf x).wt≤x.wt:=by
 have h1:=Vj x.labels;have h2:=aAu x.ag;have h3:=aBz x.ae;unfold sf nI.wt;dsimp only;omega
theorem am.Pz {α β:Type} [ba α] [ba β] {w:World} {B:Nat} {x:α} {y:β} {c1 c2:List Value} {F1 F2:List Nat} (h1:am w B x c1 F1) (h2:am w B y c2 F2) (hd:∀b∈F1,b∉F2):am w B (x,y) (c1++c2) (F1++F2):=by
 exact zb
theorem am.VK {w:World} {B:Nat} {x:aU} {Ah Ap:Option Addr} {nh ch np cp:Nat} {n p q f:Int} {G:List Nat} (h:am w B x [.slice Ah nh ch,.slice Ap np cp,.int .i64 n,.int .i64 p,.int .i64 q,.int .i64 f] G) :
 ∃Gh Gp,am w B x.aa [.slice Ah nh ch] Gh∧am w B x.au [.slice Ap np cp] Gp∧(∀y∈Gh,y∉Gp)∧(∀y∈Gh,y∈G)∧(∀y∈Gp,y∈G):=by
 obtain ⟨⟨c1,c2,F1,F2,e1,rfl,hh,d1,d2,G1,G2,e3,rfl,hp,g1,g2,H1,H2,e5,e6,⟨e7,e8,hn⟩,iZ⟩,hnd,hb,ij⟩:=h;obtain ⟨A,c,rfl,_⟩:=jB hh;obtain ⟨A2,c2',rfl,_⟩:=jB hp;subst e7 e5 e3;simp only [List.cons_append,List.nil_append,List.cons.injEq] at e1;obtain ⟨ea,eb,_⟩:=e1;rw [List.nodup_append,List.nodup_append] at hnd;refine ⟨F1,G1,⟨by rw [ea];exact hh,hnd.1,fun y hy=>hb y (by simp [hy]),fun y hy=>ij y (by simp [hy])⟩,⟨by rw [eb];exact hp,hnd.2.1.1,fun y hy=>hb y (by simp [hy]),fun y hy=>ij y (by simp [hy])⟩,fun y hy mn=>hnd.2.2 y hy y (by simp [mn]) rfl,fun y hy=>by simp [hy],fun y hy=>by simp [hy]⟩
theorem am.Ma {w:World} {B:Nat} {H:List aM} {Q:List af} {Ah Ap:Option Addr} {nh ch np cp:Nat} {n p q f:Int} {Gh Gp:List Nat} (h:am w B H [.slice Ah nh ch] Gh) (k:am w B Q [.slice Ap np cp] Gp) (hd:∀y∈Gh,y∉Gp) (hn:bp n) (hp:bp p) (hq:bp q) (hf:bp f) :
 am w B (⟨H,Q,n,⟨p,q,f⟩⟩:aU) [.slice Ah nh ch,.slice Ap np cp,.int .i64 n,.int .i64 p,.int .i64 q,.int .i64 f] (Gh++Gp):=by
 refine am.up (B':=B) (fun x:aU=>(x.aa,x.au,x.next,x.weights)) ?_ (Nat.le_refl _);have h5:am w B (⟨p,q,f⟩:rZ) ([.int .i64 p]++([.int .i64 q]++[.int .i64 f])) []:=by exact zm
 have h6:=am.cons (jL w n hn) h5;have h7:=am.Pz h (am.Pz k h6 (fun b _ hb=>by cases hb)) (fun b hb ei=>hd b hb (by simpa using ei));simpa using h7
theorem Ak {P:Program} {t e:TypeId} {z:Value} {size bytes:Nat} (hE:DL P t e z size bytes) {o:Oper} {a:Act} {K:Act→World→Prop} {Q:Exit→Act→World→Prop} (s x:Operand)
 (ho:o.op = .call { callee:=.builtin .append,args:=#[s,x],argTypes:=#[t,t] })
 (w:World) (base:Nat) (v:Value) (n:Nat) (xs:List Value) (bd:w.ownsRow base e size v n xs) (hs:a.eval s = v) (c:Nat) (hx:a.eval x = .slice none 0 c)
 (h:∀v' w',w'.ownsRow base e size v' (n+0) (xs++[])→w.grownBy w' v.ownBlock→(v'.ownBlock = v.ownBlock∨v'.ownBlock = some w.heap.size)→K (a.put o.dst v') w'):o.wp P a w K Q:=by
 obtain ⟨ht,hi0,mb,gg⟩:=hE;obtain ⟨i,hi,hz,hsize,hb⟩:=info_parts hi0;have fin:∀(A2:Option Addr) (cap:Nat),v = .slice A2 n cap→n≤cap→o.wp P a w K Q:=by intro A2 cap hv eM;have hr:=run_append_nothing (P:=P) w t t o.type e i ht hi A2 n cap eM (.slice none 0 c) (Src.ofNil w ht c);unfold Oper.wp execOp;simp only [ho,resolve,invoke,builtin,Sem.run_bind,Sem.run_pure,Result.andThen_ok,List.map_toArray,List.map_cons,List.map_nil,hs,hv,hx,hr];subst hv;exact h _ w (by simpa using bd) ⟨rfl,rfl,rfl,Nat.le_refl _,fun _ _ _=>rfl⟩ (.inl rfl)
 rcases bd.2 with ⟨hv,va⟩ | ⟨g,cap,dy,hv,_,_,eM,_⟩
 ·exact fin none 0 (by rw [hv,va]) J
 ·exact fin _ cap hv eM
theorem VL {P:Program} {t e:TypeId} {z:Value} {size bytes:Nat} (hE:DL P t e z size bytes) {ops:Array Oper} {rest:List Oper} {o:Oper} {a:Act} {Q:Exit→Act→World→Prop} (tA:o.guard = none) (s x:Operand)
 (ho:o.op = .call { callee:=.builtin .append,args:=#[s,x],argTypes:=#[t,t] })
 (w:World) (base:Nat) (v:Value) (n:Nat) (xs:List Value) (bd:w.ownsRow base e size v n xs) (hs:a.eval s = v) (c:Nat) (hx:a.eval x = .slice none 0 c)
 (h:∀v' w',w'.ownsRow base e size v' (n+0) (xs++[])→w.grownBy w' v.ownBlock→(v'.ownBlock = v.ownBlock∨v'.ownBlock = some w.heap.size)→wpList P ops Q rest (a.put o.dst v') w'):wpList P ops Q (o :: rest) a w :=
 wpList_plain tA fun K hK=>Ak hE s x ho w base v n xs bd hs c hx fun v' w' h1 h2 h3=>hK _ _ (h v' w' h1 h2 h3)
theorem ax7 {α:Type} [ba α] {w:World} {B c i:Nat} {u:Value} {x:α} {cs:List Value} {F:List Nat} (h:am w B x cs F) (hF:∀y∈F,y≠c):am (w.setCell ⟨c,i,none⟩ u) B x cs F :=
 h.keep (fun y hy=>Below.heap_setCell _ _ _ _ zW) eI
def Ao (nm:ByteArray) (h:aM):Bool:=Op.bytesLess h.name.toList nm.toList
def fY (nm:ByteArray) (xs:List aM):Nat:=(xs.takeWhile (Ao nm)).length
theorem PA (nm:ByteArray) (xs:List aM):fY nm xs≤xs.length:=by
 unfold fY;induction xs with
 | nil=>simp
 | cons a l ih=>rw [List.takeWhile_cons];split <;> simp <;> omega
theorem PB {nm:ByteArray} : ∀{xs:List aM} {k:Nat},k < fY nm xs→∀(hk:k < xs.length),Ao nm xs[k] = true
 | [],_,h,hk=>absurd hk S'
 | a :: l,0,h,hk=>by
   unfold fY at h;rw [List.takeWhile_cons] at h;split at h
   ·rename_i h2;simpa using h2
   ·simp at h
 | a :: l,k+1,h,hk=>by
   unfold fY at h;rw [List.takeWhile_cons] at h;split at h
   ·simp only [List.getElem_cons_succ];exact PB (xs:=l) (by unfold fY;simpa using h) Mt
   ·simp at h
theorem PC {nm:ByteArray} : ∀{xs:List aM} (hk:fY nm xs < xs.length),Ao nm xs[fY nm xs] = false
 | [],hk=>absurd hk S'
 | a :: l,hk=>by
   by_cases h:Ao nm a = true
   ·have e:fY nm (a :: l) = fY nm l+1:=(by unfold fY;rw [List.takeWhile_cons,if_pos h];rfl);have:=PC (nm:=nm) (xs:=l) (by rw [e] at hk;simpa using hk);simp only [e,List.getElem_cons_succ];exact this
   ·have e:fY nm (a :: l) = 0:=(by unfold fY;rw [List.takeWhile_cons,if_neg h];rfl);simp only [e,List.getElem_cons_zero];simpa using h
theorem PD {nm:ByteArray} {xs:List aM} {k:Nat} (h1:k≤fY nm xs) (h2:∀hk:k < xs.length,Ao nm xs[k] = false):k = fY nm xs:=by
 have:=PA nm xs;by_cases h:k < fY nm xs
 ·have h3:=PB h J;rw [h2 J] at h3;cases h3
 ·omega
def mH (x:aU) (u:aM):aU × Int :=
 if iI x = true∧(bf u).2 = true then (if 0≤pK (iM (bf u).1.name) x.aa then (x,2) else if 8≤x.aa.length then (x,4) else (⟨f' (fY (bf u).1.name x.aa) (bf u).1 x.aa,x.au,x.next,x.weights⟩,0)) else (x,1)
def AW (nm:ByteArray) (h:af):Bool:=Op.bytesLess h.aS.name.toList nm.toList
def ft (nm:ByteArray) (xs:List af):Nat:=(xs.takeWhile (AW nm)).length
theorem P4 (nm:ByteArray) (xs:List af):ft nm xs≤xs.length:=by
 unfold ft;induction xs with
 | nil=>simp
 | cons a l ih=>rw [List.takeWhile_cons];split <;> simp <;> omega
theorem P' {nm:ByteArray} : ∀{xs:List af} {k:Nat},k < ft nm xs→∀(hk:k < xs.length),AW nm xs[k] = true
 | [],_,h,hk=>absurd hk S'
 | a :: l,0,h,hk=>by
   unfold ft at h;rw [List.takeWhile_cons] at h;split at h
   ·rename_i h2;simpa using h2
   ·simp at h
 | a :: l,k+1,h,hk=>by
   unfold ft at h;rw [List.takeWhile_cons] at h;split at h
   ·simp only [List.getElem_cons_succ];exact P' (xs:=l) (by unfold ft;simpa using h) Mt
   ·simp at h
theorem Qd {nm:ByteArray} : ∀{xs:List af} (hk:ft nm xs < xs.length),AW nm xs[ft nm xs] = false
 | [],hk=>absurd hk S'
 | a :: l,hk=>by
   by_cases h:AW nm a = true
   ·have e:ft nm (a :: l) = ft nm l+1:=(by unfold ft;rw [List.takeWhile_cons,if_pos h];rfl);have:=Qd (nm:=nm) (xs:=l) (by rw [e] at hk;simpa using hk);simp only [e,List.getElem_cons_succ];exact this
   ·have e:ft nm (a :: l) = 0:=(by unfold ft;rw [List.takeWhile_cons,if_neg h];rfl);simp only [e,List.getElem_cons_zero];simpa using h
theorem Qf {nm:ByteArray} {xs:List af} {k:Nat} (h1:k≤ft nm xs) (h2:∀hk:k < xs.length,AW nm xs[k] = false):k = ft nm xs:=by
 have:=P4 nm xs;by_cases h:k < ft nm xs
 ·have h3:=P' h J;rw [h2 J] at h3;cases h3
 ·omega
def d' (x:aU) (n:nI):af:=⟨n,⟨#[]⟩,x.next⟩
theorem aAf {x:aU} (h:iI x = true):1≤x.next∧x.next≤1000000000:=by
 unfold iI Em at h;simp only [Bool.and_eq_true,decide_eq_true_eq] at h;exact h.1.2.2.1
def lN (x:aU) (u:nI):aU × Int :=
 if iI x = true∧(jf u).2 = true then (if 0≤pK (CG (jf u).1.name) x.au then (x,2) else if 12≤x.au.length∨1000000000≤x.next then (x,4) else (⟨x.aa,f' (ft (jf u).1.name x.au) (d' x (jf u).1) x.au,x.next+1,x.weights⟩,0)) else (x,1)
theorem am.d' {w:World} {B:Nat} {x:aU} {n:nI} {cs:List Value} {G:List Nat} (h:am w B n cs G) (hn:bp x.next):am w B (d' x n) (cs++[.string ⟨#[]⟩,.int .i64 x.next]) G:=by
 have h5:am w B ((⟨#[]⟩:ByteArray),x.next) ([.string ⟨#[]⟩]++[.int .i64 x.next]) []:=am.cons (rdStr w ⟨#[]⟩ (rV (Nat.zero_le _))) (am.flat (jL w x.next hn));have h6:=am.Pz h h5 (fun _ _ hb=>by cases hb);rw [List.append_nil] at h6;exact am.up (B':=B) (fun x:af=>(x.aS,x.on,x.seq)) h6 (Nat.le_refl _)
theorem L8 (x:aM) (cs:List Value) (F:List Nat) (w:World) (h:rd w x cs F) (hw:(x.wt:Int)≤1048576) :
 Calls Tryz.prog 159 #[.agg cs.toArray] w fun e w'=>∃ds G,e = .returned (.tuple #[.agg ds.toArray,.bool (bf x).2])∧am w' w.heap.size (bf x).1 ds G∧Below w.heap.size w w':=by
 have h0:=h;obtain ⟨gu,gy,jw,kJ,kK,qU,aw,qp,hname,dO,vg,cF,uI,jq⟩:=iy h;subst aw;clear qp h;have HX:=I h0;have Du:=I hw;clear h0;have gE:x.wt = x.name.size+kL ao.wt x.labels+kL iU.wt x.aT:=rfl;have iY:(x.labels.length:Int)≤1048576:=by have:=gJ ao.wt x.labels;omega
 have cK:(x.aT.length:Int)≤1048576:=by have:=gJ iU.wt x.aT;omega
 have o5:∀l∈x.labels,(l.key.size:Int)≤1048576∧(l.value.size:Int)≤1048576:=fun l hl=>by have h9:=Bq (f:=ao.wt) hl;have h8:ao.wt l = l.key.size+l.value.size:=rfl;omega
 have nQ:∀l∈x.aT,(l.key.size:Int)≤1048576∧(l.value.size:Int)≤1048576:=fun l hl=>by have h9:=Bq (f:=iU.wt) hl;have h8:iU.wt l = l.key.size+l.value.size:=rfl;omega
 have S0:qL w (((w.alloc (.cells #[.string x.name,.slice gu x.labels.length gy,.int .i64 x.av,.int .i64 x.mem,.int .i64 x.slots,.slice kJ x.aT.length kK] 47)).alloc (.cells #[.string ⟨#[]⟩,.slice none 0 0,.int .i64 0,.int .i64 0,.int .i64 0,.slice none 0 0] 47)).alloc (.cells #[.string x.name,.slice gu x.labels.length gy,.int .i64 x.av,.int .i64 x.mem,.int .i64 x.slots,.slice kJ x.aT.length kK] 47)) [.string x.name,.slice gu x.labels.length gy,.int .i64 x.av,.int .i64 x.mem,.int .i64 x.slots,.slice kJ x.aT.length kK] [.string ⟨#[]⟩,.slice none 0 0,.int .i64 0,.int .i64 0,.int .i64 0,.slice none 0 0] [.string x.name,.slice gu x.labels.length gy,.int .i64 x.av,.int .i64 x.mem,.int .i64 x.slots,.slice kJ x.aT.length kK]:=qL.new w _ _ _ 47 47 47;obtain ⟨v0,rC⟩:∃v0,(((w.alloc (.cells #[.string x.name,.slice gu x.labels.length gy,.int .i64 x.av,.int .i64 x.mem,.int .i64 x.slots,.slice kJ x.aT.length kK] 47)).alloc (.cells #[.string ⟨#[]⟩,.slice none 0 0,.int .i64 0,.int .i64 0,.int .i64 0,.slice none 0 0] 47)).alloc (.cells #[.string x.name,.slice gu x.labels.length gy,.int .i64 x.av,.int .i64 x.mem,.int .i64 x.slots,.slice kJ x.aT.length kK] 47)) = v0:=⟨_,rfl⟩;rw [rC] at S0;have ri:=I rC;have i1:=S0.box.cell (i:=1) (u:=.slice gu x.labels.length gy) rfl;have j1:=S0.ob.lt;clear rC hw gE;go_enter Tryz.func159,Tryz.ntmps159;go_wp2_with fail
 rw [ri.out];clear ri;refine (V0 x.labels _ _ _ v0 (dO.ext S0.below) iY o5).mono ?_;obtain ⟨L1,b1,e1⟩:∃L b,BG x.labels = (L,b):=⟨_,_,rfl⟩;rw [e1];have E1:=I e1;clear e1 i1;rintro e w1 ⟨A1,c1,G1,rfl,jX,bo⟩;have T1:=S0.ext bo;replace jX:=jX.mono (B':=w.heap.size+1+1+1) J;obtain ⟨z1,cg⟩:∃z,z = w1.heap.size:=⟨_,rfl⟩;have AE:=I (show ∀b∈G1,b < z1 from fun b hb=>by rw [cg];exact jX.lt b hb);have PM:w.heap.size+1+1+1≤z1:=by have:=bo.size;omega
 clear bo;have i2:=T1.box.cell (i:=5) (u:=.slice kJ x.aT.length kK) rfl;have j2:=T1.ob.lt;go_wp2_with fail
 clear S0;refine (ayM x.aT _ _ _ w1 (jq.ext T1.below) cK nQ).mono ?_;obtain ⟨L2,b2,e2⟩:∃L b,Fq x.aT = (L,b):=⟨_,_,rfl⟩;rw [e2];have E2:=I e2;clear e2 i2;rintro e w2 ⟨A2,c2,G2,rfl,bE,ap⟩;have T2:=T1.ext ap;replace bE:=bE.mono (B':=z1) (by have:=cg;omega);replace jX:=jX.ext ap;obtain ⟨z2,cj⟩:∃z,z = w2.heap.size:=⟨_,rfl⟩;have vc:=I (show ∀b∈G2,b < z2 from fun b hb=>by rw [cj];exact bE.lt b hb);have PN:z1≤z2:=by have:=ap.size;omega
 clear ap;have k1:=T2.ob.cell (i:=1) (u:=.slice gu x.labels.length gy) rfl;have f1:=T2.ob.fz 1;have S1:=T2.put 1 (.slice A1 L1.length c1);replace jX:=jX.setCell (p:=⟨w.heap.size+1+1,1,none⟩) bA (.slice A1 L1.length c1);replace bE:=bE.setCell (p:=⟨w.heap.size+1+1,1,none⟩) bA (.slice A1 L1.length c1);have k2:=T2.ob.cell (i:=5) (u:=.slice kJ x.aT.length kK) rfl;have f2:=T2.ob.fz 5;have S2:=S1.put 5 (.slice A2 L2.length c2);replace jX:=jX.setCell (p:=⟨w.heap.size+1+1,5,none⟩) bA (.slice A2 L2.length c2);replace bE:=bE.setCell (p:=⟨w.heap.size+1+1,5,none⟩) bA (.slice A2 L2.length c2);have l9:=T2.ob.lt;go_upto_region 6 with fail
 obtain ⟨v2,hv⟩:∃v,((w2.setCell ⟨w.heap.size+1+1,1,none⟩ (.slice A1 L1.length c1)).setCell ⟨w.heap.size+1+1,5,none⟩ (.slice A2 L2.length c2)) = v:=⟨_,rfl⟩;have hs:v2.heap.size = z2:=by rw [← hv,cj];simp [World.setCell]
 rw [hv] at S2 jX bE;try rw [hv]
 clear hv T2 k1 f1 k2 f2 l9 cj;have cj:=hs;clear hs
 have gm:=I (show am v2 (w.heap.size+1+1+1) (⟨x.name,L1,x.av,x.mem,x.slots,L2⟩:aM) [.string x.name,.slice A1 L1.length c1,.int .i64 x.av,.int .i64 x.mem,.int .i64 x.slots,.slice A2 L2.length c2] (G1++G2) from by
  refine am.up (B':=w.heap.size+1+1+1) (fun x:aM=>(x.name,x.labels,x.av,x.mem,x.slots,x.aT)) ?_ (Nat.le_refl _);refine am.cons (c1:=[.string x.name]) (rdStr _ x.name (rV hname)) ?_;refine am.pair (B2:=z1) (c1:=[.slice A1 L1.length c1]) (F1:=G1) jX ?_ J AE.out;refine am.cons (c1:=[.int .i64 x.av]) (jL _ x.av vg) ?_;refine am.cons (c1:=[.int .i64 x.mem]) (jL _ x.mem cF) ?_;refine am.cons (c1:=[.int .i64 x.slots]) (jL _ x.slots uI) ?_
  exact bE)
 have HN:=I (show rS x = ⟨x.name,L1,x.av,x.mem,x.slots,L2⟩ by unfold rS;rw [E1.out,E2.out]);have HR:=I (show bf x = if b1 = true∧b2 = true∧Aj (rS x) = true then (rS x,true) else (x,false) by unfold bf;rw [E1.out,E2.out]);have HS:=I S2;have Uw:=I (show ((rS x).wt:Int)≤1048576 by have:=aCl x;have:=Du.out;omega);clear jX bE S2;have q_:=HS.out.ob.lt;obtain ⟨p0,p1,p2,p3,p4,p5⟩:=dp HS.out.box;cases b1 with
 | false =>have oF:=I (show bf x = (x,false) by rw [HR.out];exact if_neg (by rintro ⟨hh,_⟩;cases hh));exact EX
 | true =>
   cases b2 with
   | false =>have oF:=I (show bf x = (x,false) by rw [HR.out];exact if_neg (by rintro ⟨_,hh,_⟩;cases hh));exact EX
   | true =>
     have HYN:=HN;cases hr:Aj (rS x) with
     | false =>
       have kr:=I hr;obtain ⟨q0,q1,q2,q3,q4,q5⟩:=dp HS.out.ob;go_wp2_with fail
       refine (tZ (⟨x.name,L1,x.av,x.mem,x.slots,L2⟩:aM) _ _ v2 gm.out.rd Mx).mono ?_;rw [← HN.out,kr.out];rintro e w7 ⟨rfl,bz⟩;have ja:=I (HS.out.ext bz);have Mf:=I (gm.out.ext bz);clear p0 p1 p2 p3 p4 p5 q0 q1 q2 q3 q4 q5 q_ bz;have oF:=I (show bf x = (x,false) by rw [HR.out];exact if_neg (by rintro ⟨_,_,hh⟩;rw [kr.out] at hh;cases hh));have rr:=ja.out.box.lt;obtain ⟨p0,p1,p2,p3,p4,p5⟩:=dp ja.out.box;go_wp2_with fail
       refine (Oc x _ _ w7 (L6 HX.out ja.out.below) iY cK).mono ?_;rintro e w8 ⟨N4,G8,rfl,sV,gM⟩;have T8:=ja.out.ext gM;have SY:=sV;obtain ⟨rc,aHA,aJp,aIQ,aIR,aCm,ayd,hF9,aye,aJq,aAR,aAS,aDQ,aCn⟩:=iy sV.rd;subst ayd;clear hF9 sV;obtain ⟨r0,r1,r2,r3,r4,r5⟩:=dp T8.rb;have rf:=T8.rb.fz;have rl:=T8.rb.lt;have nH:=I SY;have CR:=I T8;have N5:w.heap.size+1 < w7.heap.size:=ja.out.rb.lt;clear SY T8 gM;go_wp2_with fail
       try dsimp only
       iterate 60 (first | go_step | skip)
       refine bodyPost_ret (v:=.tuple #[.agg #[.string x.name,.slice rc x.labels.length aHA,.int .i64 x.av,.int .i64 x.mem,.int .i64 x.slots,.slice aIQ x.aT.length aIR],.bool false]) (by simp [results,Tryz.results159,go_sem, *]) rfl ⟨[.string x.name,.slice rc x.labels.length aHA,.int .i64 x.av,.int .i64 x.mem,.int .i64 x.slots,.slice aIQ x.aT.length aIR],G8,by rw [oF.out];try rfl,?_,?_⟩
       ·rw [oF.out];refine am.mono (B:=w7.heap.size) ?_ J;exact CS
       ·exact L7
     | true =>
       have kr:=I hr;obtain ⟨q0,q1,q2,q3,q4,q5⟩:=dp HS.out.ob;go_wp2_with fail
       refine (tZ (⟨x.name,L1,x.av,x.mem,x.slots,L2⟩:aM) _ _ v2 gm.out.rd Mx).mono ?_;rw [← HN.out,kr.out];rintro e w7 ⟨rfl,bz⟩;have ja:=I (HS.out.ext bz);have Mf:=I (gm.out.ext bz);clear p0 p1 p2 p3 p4 p5 q0 q1 q2 q3 q4 q5 q_ bz;have ze:=I (show bf x = (rS x,true) by rw [HR.out];exact if_pos (by simp [kr.out]));obtain ⟨q0,q1,q2,q3,q4,q5⟩:=dp ja.out.ob;obtain ⟨r0,r1,r2,r3,r4,r5⟩:=dp ja.out.rb;have rf:=ja.out.rb.fz;have rl:=ja.out.rb.lt;have ql:=ja.out.ob.lt;go_wp2_with fail
       try dsimp only
       iterate 60 (first | go_step | skip)
       refine bodyPost_ret (v:=.tuple #[.agg #[.string x.name,.slice A1 L1.length c1,.int .i64 x.av,.int .i64 x.mem,.int .i64 x.slots,.slice A2 L2.length c2],.bool true]) (by simp [results,Tryz.results159,go_sem, *]) rfl ⟨[.string x.name,.slice A1 L1.length c1,.int .i64 x.av,.int .i64 x.mem,.int .i64 x.slots,.slice A2 L2.length c2],G1++G2,by rw [ze.out];try rfl,?_,?_⟩
       ·exact Gi
       ·exact (by repeat (first | with_reducible exact ja.out.below | with_reducible refine aC ?_ bA _))
end Go.Proofs.YtajbbmembionpaaGreat
