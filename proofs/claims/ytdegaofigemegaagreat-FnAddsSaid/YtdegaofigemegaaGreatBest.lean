/- BestHost, of the program and of the reference. No condition. -/
import Derived.Test.YtdegaofigemegaaGreatCompTaint
import Derived.Test.YtdegaofigemegaaGreatAddP0
namespace Go.Proofs.YtdegaofigemegaaGreat
open Go.ChangeShapes Go.WideShapes Go.ChangeAt Go.RowKit
set_option linter.unusedVariables false
set_option linter.unusedSimpArgs false
set_option maxHeartbeats 4000000
set_option maxRecDepth 100000
def qg (x:aU) (p:nI):ByteArray:=(Jh x p).headD ⟨#[]⟩
def BR (x:aU) (p:nI):Bool:=!(Jh x p).isEmpty
theorem ahX (x:aU) (p:nI) (cs ps:List Value) (F G:List Nat) (w:World) (h:rd w x cs F) (h':rd w p ps G) (hw:(x.wt:Int)<=1048576) (kv:(p.wt:Int)<=1048576) :
 Calls Tryz.prog 83 #[.agg cs.toArray,.agg ps.toArray] w λe w'=>e = .returned (.tuple #[.string (qg x p),.bool (BR x p)])/\Below w.heap.size w w':=by
 have HW:=I hw;have Uc:=I kv;clear hw kv;have hr:=h;have dE:=h';obtain ⟨bG,bD,fQ,dn,bW,jg,ar,hF,bQ,dM,hnext,aV,aP,aW⟩:=aO hr;obtain ⟨bY,bZ,iq,eU,eX,jV,bg,bn,dK,jU,hG,jW,dA,kQ,lg,lG,iO,bK⟩:=dL dE;subst ar jU;clear hF hG hr dE;have HB:=I (show ∀l,Jh x p = l->qg x p = l.headD ⟨#[]⟩/\BR x p = !l.isEmpty from λl hl=>by unfold qg BR;rw [hl];exact ⟨rfl,rfl⟩);go_enter Tryz.func83,Tryz.ntmps83;go_wp2_with fail
 refine (Xh x p _ _ _ _ _ (aJ h bA) (aJ h' bA) HW.out Uc.out).mono ?_;rintro e w1 ⟨A,c,G1,rfl,hO,aR⟩;have BP:Below w.heap.size w w1:=ah bA aR;obtain ⟨l,hl⟩:∃l,Jh x p = l:=⟨_,rfl⟩;rw [hl] at hO |-;have HL:=I (HB.out l hl);clear hl;cases l with
 | nil =>
   simp only [List.length_nil] at hO |-;go_wp2;go_ret2
   exact ⟨by rw [HL.out.1,HL.out.2];rfl,BP⟩
 | cons y ys =>
   have ap:(0:Nat) < (y :: ys).length:=S';obtain ⟨b,o,ck,Fk,hA,hbG,hbs,aJe,_,hcells⟩:=Sl.get hO.rd ap;subst hA;obtain ⟨ar,su,d9⟩:=aJe;subst ar;have qe:w1.cell? ⟨b,o,none⟩ = some (.string y):=(by have:=hcells 0 _ rfl;simpa using this);have bI:(((y :: ys).length:Int) == 0) = false:=(by simp;omega);clear hcells hO d9;obtain ⟨n,hn⟩:∃n,(y :: ys).length = n:=⟨_,rfl⟩;rw [hn] at ap bI |-;clear hn;go_wp2;go_ret2
   exact ⟨by rw [HL.out.1,HL.out.2];rfl,BP⟩
theorem lh (xs:List iU) (A:Option Addr) (c:Nat) (F:List Nat) (w:World) (h:Sl w xs A c F) (hl:(xs.length:Int)<=1048576) (cN:∀l∈xs,(l.key.size:Int)<=1048576/\(l.value.size:Int)<=1048576) :
 Calls Tryz.prog 78 #[.slice A xs.length c] w λe w'=>∃A' c' G,e = .returned (.tuple #[.slice A' (Fq xs).1.length c',.bool (Fq xs).2])/\ai w' w.heap.size (Fq xs).1 [.slice A' (Fq xs).1.length c'] G/\Below w.heap.size w w':=by
 have Eo:=I cN;clear cN;by_cases mw:xs.length<=40
 ·go_enter Tryz.func78,Tryz.ntmps78;go_wp2_with fail
  refine (R6 xs A c F w h hl).mono ?_;rintro e w1 ⟨A1,c1,F1,rfl,jX,aR⟩;go_wp2_with fail
  refine (s6 xs A1 c1 F1 w1 w.heap.size jX aR.size hl).mono ?_;rintro e w2 ⟨rfl,ys,F2,hp,hs,bj,am⟩;have bE:ys.length = xs.length:=hp.length_eq;have hu:=jC EN aGI hp hs;have bM:=s7 ys A1 c1 F2 w2 w.heap.size (by rw [bE];exact bj) (Nat.le_trans aR.size (am.mono (Nat.le_refl _)).size) (by rw [bE];exact hl);rw [bE] at bM hu;have HU:=I hu;have HC:=I bM;have fp:=I (show Below w.heap.size w w2 from aR.trans am);clear hs hp bj aR am jX bE hu bM;go_wp2_with fail
  refine HC.out.mono ?_;rw [HU.out];rintro e w3 ⟨F3,rfl,hO3,az⟩;have oL:=I (show Below w.heap.size w w3 from fp.out.trans az);have gN:=I hO3;have tO:((dx qo [] xs).length:Int)<=1048576:=by have:=xT qo xs [];simp at this;omega
  have en:=I (ZK (dx qo [] xs) _ _ _ _ w3 hO3.rd rfl tO (λl hl=>Eo.out l (UK hl)));clear az hO3 HC HU fp;cases hr:La (dx qo [] xs) with
  | true =>have HR:=I (UJ mw hr);exact LK
  | false =>
    have HR:=I (az7 hr);have ik:=I hr;clear hr;go_wp2_with fail
    refine en.out.mono ?_;rw [ik.out];rintro e w4 ⟨rfl,bm⟩;have gY:=I (show Below w.heap.size w w4 from oL.out.trans (bm.mono oL.out.size));clear bm;go_wp2_with fail
    refine (R6 xs A c F w4 (h.ext gY.out) hl).mono ?_;exact yj
 ·have HR:=I (ayj mw);go_enter Tryz.func78,Tryz.ntmps78;go_wp2_with fail
  refine (R6 xs A c F w h hl).mono ?_;exact DO
theorem gS (xs:List bH) (A:Option Addr) (c:Nat) (F:List Nat) (w:World) (h:Sl w xs A c F) (hl:(xs.length:Int)<=1048576) (cN:∀l∈xs,(l.key.size:Int)<=1048576/\(l.value.size:Int)<=1048576) :
 Calls Tryz.prog 75 #[.slice A xs.length c] w λe w'=>∃A' c' G,e = .returned (.tuple #[.slice A' (jK xs).1.length c',.bool (jK xs).2])/\ai w' w.heap.size (jK xs).1 [.slice A' (jK xs).1.length c'] G/\Below w.heap.size w w':=by
 have Eo:=I cN;clear cN;by_cases mw:xs.length<=40
 ·go_enter Tryz.func75,Tryz.ntmps75;go_wp2_with fail
  refine (R7 xs A c F w h hl).mono ?_;rintro e w1 ⟨A1,c1,F1,rfl,jX,aR⟩;go_wp2_with fail
  refine (mE xs A1 c1 F1 w1 w.heap.size jX aR.size hl).mono ?_;rintro e w2 ⟨rfl,ys,F2,hp,hs,bj,am⟩;have bE:ys.length = xs.length:=hp.length_eq;have hu:=jC EO aEv hp hs;have bM:=mF ys A1 c1 F2 w2 w.heap.size (by rw [bE];exact bj) (Nat.le_trans aR.size (am.mono (Nat.le_refl _)).size) (by rw [bE];exact hl);rw [bE] at bM hu;have HU:=I hu;have HC:=I bM;have fp:=I (show Below w.heap.size w w2 from aR.trans am);clear hs hp bj aR am jX bE hu bM;go_wp2_with fail
  refine HC.out.mono ?_;rw [HU.out];rintro e w3 ⟨F3,rfl,hO3,az⟩;have oL:=I (show Below w.heap.size w w3 from fp.out.trans az);have gN:=I hO3;have tO:((dx vJ [] xs).length:Int)<=1048576:=by have:=xT vJ xs [];simp at this;omega
  have en:=I (RH (dx vJ [] xs) _ _ _ _ w3 hO3.rd rfl tO (λl hl=>Eo.out l (Wb hl)));clear az hO3 HC HU fp;cases hr:Ya (dx vJ [] xs) with
  | true =>have HR:=I (Wa mw hr);exact LK
  | false =>
    have HR:=I (aBF hr);have ik:=I hr;clear hr;go_wp2_with fail
    refine en.out.mono ?_;rw [ik.out];rintro e w4 ⟨rfl,bm⟩;have gY:=I (show Below w.heap.size w w4 from oL.out.trans (bm.mono oL.out.size));clear bm;go_wp2_with fail
    refine (R7 xs A c F w4 (h.ext gY.out) hl).mono ?_;exact yj
 ·have HR:=I (az8 mw);go_enter Tryz.func75,Tryz.ntmps75;go_wp2_with fail
  refine (R7 xs A c F w h hl).mono ?_;exact DO
theorem ai.BS {α β:Type} [ax α] [ax β] {w:World} {B:Nat} {x:α} {y:β} {c1 c2:List Value} {F1 F2:List Nat} (h1:ai w B x c1 F1) (h2:ai w B y c2 F2) (hd:∀b∈F1,b∉F2):ai w B (x,y) (c1++c2) (F1++F2):=by
 exact Ds
theorem ai.aFY {w:World} {B:Nat} {x:aU} {Ah Ap:Option Addr} {nh ch np cp:Nat} {n p q f:Int} {G:List Nat} (h:ai w B x [.slice Ah nh ch,.slice Ap np cp,.int .i64 n,.int .i64 p,.int .i64 q,.int .i64 f] G) :
 ∃Gh Gp,ai w B x.O [.slice Ah nh ch] Gh/\ai w B x.M [.slice Ap np cp] Gp/\(∀y∈Gh,y∉Gp)/\(∀y∈Gh,y∈G)/\(∀y∈Gp,y∈G):=by
 obtain ⟨⟨c1,c2,F1,F2,e1,rfl,hh,d1,d2,G1,G2,e3,rfl,hp,g1,g2,H1,H2,e5,e6,⟨e7,e8,hn⟩,ie⟩,hnd,hb,eH⟩:=h;obtain ⟨A,c,rfl,_⟩:=jB hh;obtain ⟨A2,c2',rfl,_⟩:=jB hp;subst e7 e5 e3;simp only [List.cons_append,List.nil_append,List.cons.injEq] at e1;obtain ⟨ea,eb,_⟩:=e1;rw [List.nodup_append,List.nodup_append] at hnd;refine ⟨F1,G1,⟨by rw [ea];exact hh,hnd.1,λy hy=>hb y (by simp [hy]),λy hy=>eH y (by simp [hy])⟩,⟨by rw [eb];exact hp,hnd.2.1.1,λy hy=>hb y (by simp [hy]),λy hy=>eH y (by simp [hy])⟩,λy hy eI=>hnd.2.2 y hy y (by simp [eI]) rfl,λy hy=>by simp [hy],λy hy=>by simp [hy]⟩
theorem ai.aFZ {w:World} {B:Nat} {H:List ba} {Q:List ag} {Ah Ap:Option Addr} {nh ch np cp:Nat} {n p q f:Int} {Gh Gp:List Nat} (h:ai w B H [.slice Ah nh ch] Gh) (k:ai w B Q [.slice Ap np cp] Gp) (hd:∀y∈Gh,y∉Gp) (hn:bt n) (hp:bt p) (hq:bt q) (hf:bt f) :
 ai w B (⟨H,Q,n,⟨p,q,f⟩⟩:aU) [.slice Ah nh ch,.slice Ap np cp,.int .i64 n,.int .i64 p,.int .i64 q,.int .i64 f] (Gh++Gp):=by
 refine ai.up (B':=B) (λx:aU=>(x.O,x.M,x.next,x.weights)) ?_ (Nat.le_refl _);have h5:ai w B (⟨p,q,f⟩:rZ) ([.int .i64 p]++([.int .i64 q]++[.int .i64 f])) []:=by exact DG
 have h6:=ai.cons (jL w n hn) h5;have h7:=ai.BS h (ai.BS k h6 (λb _ hb=>by cases hb)) (λb hb dP=>hd b hb (by simpa using dP));simpa using h7
theorem ai.mr {w:World} {B:Nat} {p:ag} {ck:List Value} {F:List Nat} (h:ai w B p ck F) (s:ByteArray) (hs:s.size<=maxLen):ai w B (⟨p.aS,s,p.seq⟩:ag) (ck.set 7 (.string s)) F:=by
 obtain ⟨⟨c1,c2,F1,F2,rfl,rfl,QS,c3,c4,F3,F4,rfl,rfl,⟨rfl,rfl,eC⟩,⟨rfl,rfl,Ue⟩⟩,hnd,hb,eH⟩:=h;have hl:c1.length = 7:=ax.len QS;have e:(c1++([Value.string p.on]++[Value.int .i64 p.seq])).set 7 (.string s) = c1++([.string s]++[.int .i64 p.seq]):=by rw [List.set_append_right _ _ J,hl];rfl
 rw [e];exact ⟨⟨c1,_,F1,_,rfl,rfl,QS,_,_,_,_,rfl,rfl,⟨rfl,rfl,hs⟩,⟨rfl,rfl,Ue⟩⟩,hnd,hb,eH⟩
def BV (x:aU) (k:Nat) (q:ag):aU × ByteArray × Int :=
 if q.on.size = 0 then (if BR x q.aS = true then (⟨x.O,x.M.set k ⟨q.aS,qg x q.aS,q.seq⟩,x.next,x.weights⟩,qg x q.aS,0) else (x,⟨#[]⟩,6)) else (x,⟨#[]⟩,5)
def lW (x:aU) (nm:ByteArray):aU × ByteArray × Int :=
 if iI x = true then (match x.M[(pK (CG nm) x.M).toNat]? with
   | some q=>if pK (CG nm) x.M < 0 then (x,⟨#[]⟩,3) else BV x (pK (CG nm) x.M).toNat q
   | none=>(x,⟨#[]⟩,3))
 else (x,⟨#[]⟩,1)
theorem azY {x:aU} {nm:ByteArray} (h:iI x = false):lW x nm = (x,⟨#[]⟩,1):=by unfold lW;rw [h];rfl
theorem aJ3 {x:aU} {nm:ByteArray} (h:iI x = true) (hn:pK (CG nm) x.M < 0):lW x nm = (x,⟨#[]⟩,3):=by
 unfold lW;rw [if_pos h];split
 ·exact if_pos hn
 ·rfl
theorem aw9 {x:aU} {nm:ByteArray} {k:Nat} (h:iI x = true) (cJ:pK (CG nm) x.M = k) (hk:k < x.M.length):lW x nm = BV x k x.M[k]:=by
 unfold lW;rw [if_pos h,cJ,Int.toNat_natCast,List.getElem?_eq_getElem hk];exact if_neg J
theorem aCF (x:aU) (p:nI) (hw:(x.wt:Int)<=1048576):((qg x p).size:Int)<=1048576:=by
 unfold qg;cases h:Jh x p with
 | nil=>exact (by decide:((⟨#[]⟩:ByteArray).size:Int)<=1048576)
 | cons y l =>
   have hm:y∈Jh x p:=(by rw [h];simp);unfold Jh at hm;rcases Xa _ _ hm with h1 | h1
   ·cases h1
   ·unfold Ar at h1;obtain ⟨z,hz,rfl⟩:=List.mem_map.1 h1;have h2:=Bq (f:=ba.wt) (List.mem_filter.1 hz).1;have h3:ba.wt z = z.name.size+kL ao.wt z.labels+kL iU.wt z.aT:=rfl;have h4:x.wt = kL ba.wt x.O+kL ag.wt x.M:=rfl;show ((z.name).size:Int)<=_;omega
def zC (x:aU) (nm:ByteArray):Bool:=(lW x nm).2.2 == 0
def BX (x:aU):aU × ByteArray × ByteArray × Int :=
 if iI x = true then
   (match (GI x.M).find? (zC x) with
   | some nm=>((lW x nm).1,nm,(lW x nm).2.1,0)
   | none=>(x,⟨#[]⟩,⟨#[]⟩,if (GI x.M).length = 0 then 7 else 6))
 else (x,⟨#[]⟩,⟨#[]⟩,1)
theorem aJ4 {x:aU} (h:iI x = false):BX x = (x,⟨#[]⟩,⟨#[]⟩,1):=by unfold BX;rw [h];rfl
theorem aJi {x:aU} (hc:iI x = true) {k:Nat} (hk:k < (GI x.M).length) (hb:∀j (hj:j < (GI x.M).length),j < k->zC x (GI x.M)[j] = false) (h:zC x (GI x.M)[k] = true):BX x = ((lW x (GI x.M)[k]).1,(GI x.M)[k],(lW x (GI x.M)[k]).2.1,0):=by
 have e:(GI x.M).find? (zC x) = some (GI x.M)[k]:=List.find?_eq_some_iff_getElem.2 ⟨h,k,hk,rfl,λj hj=>by rw [hb j J hj];rfl⟩;unfold BX;rw [if_pos hc,e]
theorem aIp {x:aU} (hc:iI x = true) (hb:∀j (hj:j < (GI x.M).length),zC x (GI x.M)[j] = false):BX x = (x,⟨#[]⟩,⟨#[]⟩,if (GI x.M).length = 0 then 7 else 6):=by
 have e:(GI x.M).find? (zC x) = none:=List.find?_eq_none.2 λy hy=>by
  obtain ⟨j,hj,rfl⟩:=List.getElem_of_mem hy;rw [hb j hj];simp
 unfold BX;rw [if_pos hc,e]
theorem azU {P:Program} {l:List Oper} {C:World->Prop} {Q:Exit->Act->World->Prop} {id:Nat} {a:Act} {w:World} (n:Nat) (hm:P.follows .mixedOrders = true) (hn:l.toArray.size = n) (hw:C w.drew)
 (h:oV P l Q C n (Array.replicate n false) a w.drew):(Code.region id l.toArray true).wp P Q a w:=by
 subst hn;exact wp_region_held_drew (S:=C) hm hw λ_=>h
theorem IJ {α:Type} [ax α] {w:World} {B c i:Nat} {u:Value} {x:α} {cs:List Value} {F:List Nat} (h:ai w B x cs F) (hF:∀y∈F,y≠c):ai (w.setCell ⟨c,i,none⟩ u) B x cs F :=
 h.keep (λy hy=>Below.heap_setCell _ _ _ _ EG) fw
theorem ai.join {α β:Type} [ax α] [ax β] {w:World} {B:Nat} {x:α} {y:β} {c1 c2:List Value} {F1 F2:List Nat} (h1:ai w B x c1 F1) (h2:ai w B y c2 F2) (hd:∀b∈F1,b∉F2):ai w B (x,y) (c1++c2) (F1++F2):=by
 exact Ds
theorem ai.parts {w:World} {B:Nat} {x:aU} {Ah Ap:Option Addr} {nh ch np cp:Nat} {n p q f:Int} {G:List Nat} (h:ai w B x [.slice Ah nh ch,.slice Ap np cp,.int .i64 n,.int .i64 p,.int .i64 q,.int .i64 f] G) :
 ∃Gh Gp,ai w B x.O [.slice Ah nh ch] Gh/\ai w B x.M [.slice Ap np cp] Gp/\(∀y∈Gh,y∉Gp)/\(∀y∈Gh,y∈G)/\(∀y∈Gp,y∈G):=by
 obtain ⟨⟨c1,c2,F1,F2,e1,rfl,hh,d1,d2,G1,G2,e3,rfl,hp,g1,g2,H1,H2,e5,e6,⟨e7,e8,hn⟩,ie⟩,hnd,hb,eH⟩:=h;obtain ⟨A,c,rfl,_⟩:=jB hh;obtain ⟨A2,c2',rfl,_⟩:=jB hp;subst e7 e5 e3;simp only [List.cons_append,List.nil_append,List.cons.injEq] at e1;obtain ⟨ea,eb,_⟩:=e1;rw [List.nodup_append,List.nodup_append] at hnd;refine ⟨F1,G1,⟨by rw [ea];exact hh,hnd.1,λy hy=>hb y (by simp [hy]),λy hy=>eH y (by simp [hy])⟩,⟨by rw [eb];exact hp,hnd.2.1.1,λy hy=>hb y (by simp [hy]),λy hy=>eH y (by simp [hy])⟩,λy hy eI=>hnd.2.2 y hy y (by simp [eI]) rfl,λy hy=>by simp [hy],λy hy=>by simp [hy]⟩
theorem ai.whole {w:World} {B:Nat} {H:List ba} {Q:List ag} {Ah Ap:Option Addr} {nh ch np cp:Nat} {n p q f:Int} {Gh Gp:List Nat} (h:ai w B H [.slice Ah nh ch] Gh) (k:ai w B Q [.slice Ap np cp] Gp) (hd:∀y∈Gh,y∉Gp) (hn:bt n) (hp:bt p) (hq:bt q) (hf:bt f) :
 ai w B (⟨H,Q,n,⟨p,q,f⟩⟩:aU) [.slice Ah nh ch,.slice Ap np cp,.int .i64 n,.int .i64 p,.int .i64 q,.int .i64 f] (Gh++Gp):=by
 refine ai.up (B':=B) (λx:aU=>(x.O,x.M,x.next,x.weights)) ?_ (Nat.le_refl _);have h5:ai w B (⟨p,q,f⟩:rZ) ([.int .i64 p]++([.int .i64 q]++[.int .i64 f])) []:=by exact DG
 have h6:=ai.cons (jL w n hn) h5;have h7:=ai.join h (ai.join k h6 (λb _ hb=>by cases hb)) (λb hb dP=>hd b hb (by simpa using dP));simpa using h7
def Ut (x:aU) (nm:ByteArray):aU × Int :=
 if iI x = true then (if pK (CG nm) x.M < 0 then (x,3) else (⟨x.O,x.M.eraseIdx (pK (CG nm) x.M).toNat,x.next,x.weights⟩,0)) else (x,1)
theorem afT (x:aU) (cs:List Value) (F:List Nat) (nm:ByteArray) (w:World) (h:rd w x cs F) (hw:(x.wt:Int)<=1048576) :
 Calls Tryz.prog 8 #[.agg cs.toArray,.string nm] w λe w'=>∃ds G,e = .returned (.tuple #[.agg ds.toArray,.int .i64 (Ut x nm).2])/\ai w' w.heap.size (Ut x nm).1 ds G/\Below w.heap.size w w':=by
 have eH:(x.M.length:Int)<=1048576:=by have h1:=gJ ag.wt x.M;have h2:x.wt = kL ba.wt x.O+kL ag.wt x.M:=rfl;omega
 have HW:=I hw;have Ji:=I eH;clear hw;have hr:=h;obtain ⟨bG,bD,fQ,dn,bW,jg,ar,qp,bQ,dM,hnext,aV,aP,aW⟩:=aO hr;subst ar;clear qp hr;have BE:=Nc (p:=CG nm) x.M;cases hc:iI x
 ·have HF:=I (show Ut x nm = (x,1) by unfold Ut;rw [hc];simp);have HC:=I hc;clear hc;obtain ⟨r,cc⟩:∃r,pK (CG nm) x.M = r:=⟨_,rfl⟩;have HI:=I cc;clear cc;go_enter Tryz.func8,Tryz.ntmps8;go_wp2_with fail
  refine (uo x _ _ _ (aZ h bA) HW.out).mono ?_;rintro e w1 ⟨gM,G1,rfl,jX,aR⟩;have bO:=jX.rd;obtain ⟨dG,bV,xq,dS,dJ,Bz,ar,hG1,oO,tq,wI,iV,gI,iW⟩:=aO bO;subst ar;clear hG1 bO;obtain ⟨cU,ek⟩:=ay aR;have VQ:w.heap.size < w1.heap.size:=sq aR.size;have iN:w.heap.size+1 < w1.heap.size:=sq aR.size;have dy:=jX.lt;go_wp2_with fail
  refine (UZ x _ _ nm _ (aZ h bA) Ji.out).mono ?_;rw [HI.out];rintro e w2 ⟨rfl,am⟩;obtain ⟨bM,cB⟩:=ay am;have VR:w.heap.size < w2.heap.size:=sq am.size;have iP:w.heap.size+1 < w2.heap.size:=sq am.size;have VT:w1.heap.size < w2.heap.size:=sq am.size;go_wp2_with fail
  refine (qL x _ _ _ (aZ h bA) HW.out).mono ?_;rw [HC.out];rintro e w3 ⟨rfl,az⟩;obtain ⟨cw,hf3⟩:=ay az;have vx:w.heap.size < w3.heap.size:=sq az.size;have lV:w.heap.size+1 < w3.heap.size:=sq az.size;have vy:w1.heap.size < w3.heap.size:=sq az.size;have bj:ai w3 (w.heap.size+1+1) x [.slice dG x.O.length bV,.slice dS x.M.length dJ,.int .i64 x.next,.int .i64 x.weights.pack,.int .i64 x.weights.spread,.int .i64 x.weights.soft] G1:=(((jX.mono S').alloc _).ext am).ext az;have RZ:=I bj;clear jX bj h;go_wp2_with fail
  try dsimp only
  iterate 60 (first | go_step | skip)
  refine bodyPost_ret (v:=.tuple #[.agg #[.slice dG x.O.length bV,.slice dS x.M.length dJ,.int .i64 x.next,.int .i64 x.weights.pack,.int .i64 x.weights.spread,.int .i64 x.weights.soft],.int .i64 1]) (by simp [results,Tryz.results8,go_sem, *]) rfl ?_;exact oy
 ·by_cases hng:pK (CG nm) x.M < 0
  ·have HF:=I (show Ut x nm = (x,3) by unfold Ut;rw [hc,if_pos rfl,if_pos hng]);have HC:=I hc;clear hc;obtain ⟨r,cc⟩:∃r,pK (CG nm) x.M = r:=⟨_,rfl⟩;have HI:=I cc;rw [cc] at hng;clear cc;go_enter Tryz.func8,Tryz.ntmps8;go_wp2_with fail
   refine (uo x _ _ _ (aZ h bA) HW.out).mono ?_;rintro e w1 ⟨gM,G1,rfl,jX,aR⟩;have bO:=jX.rd;obtain ⟨dG,bV,xq,dS,dJ,Bz,ar,hG1,oO,tq,wI,iV,gI,iW⟩:=aO bO;subst ar;clear hG1 bO;obtain ⟨cU,ek⟩:=ay aR;have VQ:w.heap.size < w1.heap.size:=sq aR.size;have iN:w.heap.size+1 < w1.heap.size:=sq aR.size;have dy:=jX.lt;go_wp2_with fail
   refine (UZ x _ _ nm _ (aZ h bA) Ji.out).mono ?_;rw [HI.out];rintro e w2 ⟨rfl,am⟩;obtain ⟨bM,cB⟩:=ay am;have VR:w.heap.size < w2.heap.size:=sq am.size;have iP:w.heap.size+1 < w2.heap.size:=sq am.size;have VT:w1.heap.size < w2.heap.size:=sq am.size;go_wp2_with fail
   refine (qL x _ _ _ (aZ h bA) HW.out).mono ?_;rw [HC.out];rintro e w3 ⟨rfl,az⟩;obtain ⟨cw,hf3⟩:=ay az;have vx:w.heap.size < w3.heap.size:=sq az.size;have lV:w.heap.size+1 < w3.heap.size:=sq az.size;have vy:w1.heap.size < w3.heap.size:=sq az.size;have bj:ai w3 (w.heap.size+1+1) x [.slice dG x.O.length bV,.slice dS x.M.length dJ,.int .i64 x.next,.int .i64 x.weights.pack,.int .i64 x.weights.spread,.int .i64 x.weights.soft] G1:=(((jX.mono S').alloc _).ext am).ext az;have RZ:=I bj;clear jX bj h;go_wp2_with fail
   try dsimp only
   iterate 60 (first | go_step | skip)
   refine bodyPost_ret (v:=.tuple #[.agg #[.slice dG x.O.length bV,.slice dS x.M.length dJ,.int .i64 x.next,.int .i64 x.weights.pack,.int .i64 x.weights.spread,.int .i64 x.weights.soft],.int .i64 3]) (by simp [results,Tryz.results8,go_sem, *]) rfl ?_;exact oy
  ·obtain ⟨k,cJ⟩:∃k:Nat,pK (CG nm) x.M = k:=⟨(pK (CG nm) x.M).toNat,J⟩;have hk:k < x.M.length:=J;have HF:=I (show Ut x nm = (⟨x.O,x.M.eraseIdx k,x.next,x.weights⟩,0) by unfold Ut;rw [hc,if_pos rfl,if_neg J,cJ,Int.toNat_natCast]);have HC:=I hc;clear hc;have HI:=I cJ;clear cJ hng;go_enter Tryz.func8,Tryz.ntmps8;go_wp2_with fail
   refine (uo x _ _ _ (aZ h bA) HW.out).mono ?_;rintro e w1 ⟨gM,G1,rfl,jX,aR⟩;have bO:=jX.rd;obtain ⟨dG,bV,xq,dS,dJ,Bz,ar,hG1,oO,tq,wI,iV,gI,iW⟩:=aO bO;subst ar;clear hG1 bO;obtain ⟨cU,ek⟩:=ay aR;have VQ:w.heap.size < w1.heap.size:=sq aR.size;have iN:w.heap.size+1 < w1.heap.size:=sq aR.size;have dy:=jX.lt;go_wp2_with fail
   refine (UZ x _ _ nm _ (aZ h bA) Ji.out).mono ?_;rw [HI.out];rintro e w2 ⟨rfl,am⟩;obtain ⟨bM,cB⟩:=ay am;have VR:w.heap.size < w2.heap.size:=sq am.size;have iP:w.heap.size+1 < w2.heap.size:=sq am.size;have VT:w1.heap.size < w2.heap.size:=sq am.size;go_wp2_with fail
   refine (qL x _ _ _ (aZ h bA) HW.out).mono ?_;rw [HC.out];rintro e w3 ⟨rfl,az⟩;obtain ⟨cw,hf3⟩:=ay az;have vx:w.heap.size < w3.heap.size:=sq az.size;have lV:w.heap.size+1 < w3.heap.size:=sq az.size;have vy:w1.heap.size < w3.heap.size:=sq az.size;have bj:ai w3 (w.heap.size+1+1) x [.slice dG x.O.length bV,.slice dS x.M.length dJ,.int .i64 x.next,.int .i64 x.weights.pack,.int .i64 x.weights.spread,.int .i64 x.weights.soft] G1:=(((jX.mono S').alloc _).ext am).ext az;obtain ⟨Gh,Gp,Xp,OL,hdis,my,iC⟩:=bj.parts;go_wp2_with fail
   refine (acQ x.M _ _ _ k (k+1) _ _ OL hk J (I rfl)).mono ?_;rintro e w4 ⟨F',rfl,LM,xm,Py⟩;have Pt:=Py.own Xp hdis;have hg:∀y∈Gp,w.heap.size+1 < y/\y < w1.heap.size:=λy hy=>⟨by have:=OL.base y hy;omega,dy y (iC y hy)⟩;have Ff:w3.heap.size<=w4.heap.size:=Py.size;have KB:oG w4 w1.heap.size [.slice dG x.O.length bV,.slice dS x.M.length dJ,.int .i64 x.next,.int .i64 x.weights.pack,.int .i64 x.weights.spread,.int .i64 x.weights.soft]:=((((oG.new w1 [.slice dG x.O.length bV,.slice dS x.M.length dJ,.int .i64 x.next,.int .i64 x.weights.pack,.int .i64 x.weights.spread,.int .i64 x.weights.soft] 29).ext am).ext az)).keep (Py.block _ J (λhm=>by have:=hg _ hm;omega));have lP:oG ((w.alloc (.cells ([.slice bG x.O.length bD,.slice dn x.M.length bW,.int .i64 x.next,.int .i64 x.weights.pack,.int .i64 x.weights.spread,.int .i64 x.weights.soft]:List Value).toArray 29)).alloc (.cells ([.slice none 0 0,.slice none 0 0,.int .i64 0,.int .i64 0,.int .i64 0,.int .i64 0]:List Value).toArray 29)) (w.heap.size+1) [.slice none 0 0,.slice none 0 0,.int .i64 0,.int .i64 0,.int .i64 0,.int .i64 0]:=(by have:=oG.new (w.alloc (.cells ([.slice bG x.O.length bD,.slice dn x.M.length bW,.int .i64 x.next,.int .i64 x.weights.pack,.int .i64 x.weights.spread,.int .i64 x.weights.soft]:List Value).toArray 29)) [.slice none 0 0,.slice none 0 0,.int .i64 0,.int .i64 0,.int .i64 0,.int .i64 0] 29;rw [World.size_alloc] at this;exact this);have KR:oG w4 (w.heap.size+1) [.slice none 0 0,.slice none 0 0,.int .i64 0,.int .i64 0,.int .i64 0,.int .i64 0]:=((((lP.ext aR).ext (ak (aj _) _)).ext am).ext az).keep (Py.block _ J (λhm=>by have:=hg _ hm;omega));obtain ⟨m0,m1,m2,m3,m4,m5⟩:=cK KB;have mf:=KB.fz;have ml:=KB.lt;obtain ⟨r0,r1,r2,r3,r4,r5⟩:=cK KR;have rf:=KR.fz;have rl:=KR.lt;have sI:Below w.heap.size w w4:=(show Below w.heap.size w w3 from bA).trans (Py.below (λy hy=>by have:=hg y hy;omega) J);have si:=I (ai.whole Pt LM (λy hy eI=>hdis y hy (xm y eI)) wI iV gI iW);have nX:=I (show ∀y∈Gh++F',y < w1.heap.size from λy hy=>by rcases List.mem_append.1 hy with hy | hy;exact dy y (my y hy);exact dy y (iC y (xm y hy)));clear cU bM cw ek cB hf3 jX bj Xp OL LM Pt KB KR lP Py h hg aR am az;go_wp2_with fail
   try dsimp only
   iterate 60 (first | go_step | skip)
   refine bodyPost_ret (v:=.tuple #[.agg #[.slice dG x.O.length bV,.slice dS (x.M.length - 1) dJ,.int .i64 x.next,.int .i64 x.weights.pack,.int .i64 x.weights.spread,.int .i64 x.weights.soft],.int .i64 0]) (by simp [results,Tryz.results8,go_sem, *]) rfl ?_;rw [HF.out]
   first
    | refine ⟨[.slice dG x.O.length bV,.slice dS (x.M.length - 1) dJ,.int .i64 x.next,.int .i64 x.weights.pack,.int .i64 x.weights.spread,.int .i64 x.weights.soft],Gh++F',rfl,?_,?_⟩
    | refine ⟨[.slice dG x.O.length bV,.slice dS (x.M.length - 1) dJ,.int .i64 x.next,.int .i64 x.weights.pack,.int .i64 x.weights.spread,.int .i64 x.weights.soft],rfl,⟨Gh++F',?_⟩,?_⟩
   ·try dsimp only
    refine ai.mono (B:=w.heap.size+1+1) ?_ J;exact (by repeat (first | with_reducible exact si.out | with_reducible refine ai.setCell ?_ bx _ | with_reducible refine OC ?_ (λy hy=>nX.out y hy)))
   ·exact m'
def QW (nm:ByteArray) (p:ag):ag:=if p.on.toList == nm.toList then ⟨p.aS,⟨#[]⟩,p.seq⟩ else p
def VP (nm:ByteArray) (k:Nat) (xs:List ag):List ag:=(xs.take k).map (QW nm)++xs.drop k
theorem WY (nm:ByteArray) (k:Nat) (xs:List ag) (hk:k<=xs.length):(VP nm k xs).length = xs.length:=by unfold VP;rw [List.length_append,List.length_map,List.length_take,List.length_drop];omega
theorem ai0 (nm:ByteArray) (xs:List ag):VP nm 0 xs = xs:=by simp [VP]
theorem amE (nm:ByteArray) (xs:List ag):VP nm xs.length xs = xs.map (QW nm):=by simp [VP]
theorem WZ {nm:ByteArray} {k:Nat} {xs:List ag} (hk:k < xs.length) (h:k < (VP nm k xs).length):(VP nm k xs)[k] = xs[k]:=by
 have h1:((xs.take k).map (QW nm)).length = k:=by rw [List.length_map,List.length_take];omega
 simp only [VP];rw [List.getElem_append_right J];simp [show min k xs.length = k from by omega]
theorem W2 {nm:ByteArray} {k:Nat} {xs:List ag} (hk:k < xs.length):(VP nm k xs).set k (QW nm xs[k]) = VP nm (k+1) xs:=by
 have h1:((xs.take k).map (QW nm)).length = k:=by rw [List.length_map,List.length_take];omega
 unfold VP;rw [List.set_append_right _ _ J,h1,Nat.sub_self,<- List.getElem_cons_drop hk,List.set_cons_zero,List.take_succ_eq_append_getElem hk,List.map_append];simp
theorem ai1 {nm:ByteArray} {k:Nat} {xs:List ag} (hk:k < xs.length) (h:QW nm xs[k] = xs[k]):VP nm (k+1) xs = VP nm k xs:=by
 rw [<- W2 hk,h];have h2:k < (VP nm k xs).length:=by rw [WY nm k xs J];exact hk
 rw [<- WZ (nm:=nm) hk h2,List.set_getElem_self]
theorem ai.off {w:World} {B:Nat} {p:ag} {ck:List Value} {F:List Nat} (h:ai w B p ck F):ai w B (⟨p.aS,⟨#[]⟩,p.seq⟩:ag) (ck.set 7 (.string ⟨#[]⟩)) F:=by
 obtain ⟨⟨c1,c2,F1,F2,rfl,rfl,QS,c3,c4,F3,F4,rfl,rfl,⟨rfl,rfl,eC⟩,⟨rfl,rfl,Ue⟩⟩,hnd,hb,eH⟩:=h;have hl:c1.length = 7:=ax.len QS;have e:(c1++([Value.string p.on]++[Value.int .i64 p.seq])).set 7 (.string ⟨#[]⟩) = c1++([.string ⟨#[]⟩]++[.int .i64 p.seq]):=by rw [List.set_append_right _ _ J,hl];rfl
 rw [e];exact ⟨⟨c1,_,F1,_,rfl,rfl,QS,_,_,_,_,rfl,rfl,⟨rfl,rfl,(show (0:Nat)<=maxLen from Nat.zero_le _)⟩,⟨rfl,rfl,Ue⟩⟩,hnd,hb,eH⟩
theorem TA {α:Type} [ax α] {w:World} {B c i:Nat} {u:Value} {x:α} {cs:List Value} {F:List Nat} (h:ai w B x cs F) (hF:∀y∈F,y≠c):ai (w.setCell ⟨c,i,none⟩ u) B x cs F :=
 h.keep (λy hy=>Below.heap_setCell _ _ _ _ EG) fw
def Ko (x:aU) (nm:ByteArray):aU × Int :=
 if iI x = true then (if pK (iM nm) x.O < 0 then (x,3) else (⟨x.O.eraseIdx (pK (iM nm) x.O).toNat,x.M.map (QW nm),x.next,x.weights⟩,0)) else (x,1)
def setW (x:aU) (u:rZ):aU × Int:=if iI x = true/\zL u.pack u.spread u.soft = true then (⟨x.O,x.M,x.next,u⟩,0) else (x,1)
theorem ai.ag1 {w:World} {B:Nat} {x:aU} {Ah Ap:Option Addr} {nh ch np cp:Nat} {n p q f:Int} {G:List Nat} (h:ai w B x [.slice Ah nh ch,.slice Ap np cp,.int .i64 n,.int .i64 p,.int .i64 q,.int .i64 f] G) (u:rZ) (h1:bt u.pack) (h2:bt u.spread) (h3:bt u.soft) :
 ai w B (⟨x.O,x.M,x.next,u⟩:aU) [.slice Ah nh ch,.slice Ap np cp,.int .i64 n,.int .i64 u.pack,.int .i64 u.spread,.int .i64 u.soft] G:=by
 obtain ⟨⟨c1,c2,F1,F2,e1,e2,hh,d1,d2,G1,G2,e3,e4,hp,g1,g2,H1,H2,e5,e6,⟨e7,e8,hn⟩,ie⟩,hnd,hb,eH⟩:=h;obtain ⟨A,c,rfl,_⟩:=jB hh;obtain ⟨A2,c2',rfl,_⟩:=jB hp;subst e7 e5 e3;simp only [List.cons_append,List.nil_append,List.cons.injEq] at e1;obtain ⟨ea,eb,ec,_⟩:=e1;refine ⟨⟨_,[.slice Ap np cp,.int .i64 n,.int .i64 u.pack,.int .i64 u.spread,.int .i64 u.soft],F1,F2,(by rw [ea];rfl),e2,hh,_,[.int .i64 n,.int .i64 u.pack,.int .i64 u.spread,.int .i64 u.soft],G1,G2,(by rw [eb];rfl),e4,hp,_,[.int .i64 u.pack,.int .i64 u.spread,.int .i64 u.soft],H1,H2,(by rw [ec];rfl),e6,⟨rfl,e8,hn⟩,?_⟩,hnd,hb,eH⟩;obtain ⟨rfl,hF,_⟩:=mg ie;rw [hF];exact Zj w u h1 h2 h3
theorem aeu (x:aU) (cs:List Value) (F:List Nat) (u:rZ) (us:List Value) (Fu:List Nat) (w:World) (h:rd w x cs F) (h':rd w u us Fu) (hw:(x.wt:Int)<=1048576) :
 Calls Tryz.prog 53 #[.agg cs.toArray,.agg us.toArray] w λe w'=>∃ds G,e = .returned (.tuple #[.agg ds.toArray,.int .i64 (setW x u).2])/\ai w' w.heap.size (setW x u).1 ds G/\Below w.heap.size w w':=by
 have HW:=I hw;clear hw;have hr:=h;have dE:=h';obtain ⟨bG,bD,fQ,dn,bW,jg,ar,qp,bQ,dM,hnext,aV,aP,aW⟩:=aO hr;subst ar;obtain ⟨ar,hG0,Sr,Jm,Sv⟩:=mg dE;subst ar;clear qp hG0 hr dE;cases hc:iI x <;> cases ie:zL u.pack u.spread u.soft
 ·exact Kx
 ·exact Kx
 ·have HF:=I (show setW x u = (x,1) by unfold setW;rw [hc,ie];simp);have HC:=I hc;have Du:=I ie;clear hc ie;go_enter Tryz.func53,Tryz.ntmps53;go_wp2_with fail
  refine (BO x _ _ _ (aZ h bA) HW.out).mono ?_;rintro e w1 ⟨gM,G1,rfl,jX,aR⟩;have bO:=jX.rd;obtain ⟨dG,bV,xq,dS,dJ,Bz,ar,hG1,oO,tq,wI,iV,gI,iW⟩:=aO bO;subst ar;clear hG1 bO;obtain ⟨cU,ek⟩:=ay aR;have VQ:w.heap.size < w1.heap.size:=sq aR.size;have iN:w.heap.size+1 < w1.heap.size:=sq aR.size;have ZF:w.heap.size+1+1 < w1.heap.size:=sq aR.size;have dy:=jX.lt;go_wp2_with fail
  refine (qM x _ _ _ (aZ h bA) HW.out).mono ?_;rw [HC.out];rintro e w2 ⟨rfl,am⟩;obtain ⟨bM,cB⟩:=ay am;have VR:w.heap.size < w2.heap.size:=sq am.size;have iP:w.heap.size+1 < w2.heap.size:=sq am.size;have ZG:w.heap.size+1+1 < w2.heap.size:=sq am.size;have VT:w1.heap.size < w2.heap.size:=sq am.size;go_wp2_with fail
  refine (pW u.pack u.spread u.soft _).mono ?_;rw [Du.out];rintro e w3 ⟨rfl,az⟩;obtain ⟨cw,hf3⟩:=ay az;have vx:w.heap.size < w3.heap.size:=sq az.size;have lV:w.heap.size+1 < w3.heap.size:=sq az.size;have Xc:w.heap.size+1+1 < w3.heap.size:=sq az.size;have vy:w1.heap.size < w3.heap.size:=sq az.size;have bj:ai w3 (w.heap.size+1+1+1) x [.slice dG x.O.length bV,.slice dS x.M.length dJ,.int .i64 x.next,.int .i64 x.weights.pack,.int .i64 x.weights.spread,.int .i64 x.weights.soft] G1:=(((jX.mono S').alloc _).ext am).ext az;exact KA
 ·have HF:=I (show setW x u = (⟨x.O,x.M,x.next,u⟩,0) by unfold setW;rw [hc,ie];simp);have HC:=I hc;have Du:=I ie;clear hc ie;go_enter Tryz.func53,Tryz.ntmps53;go_wp2_with fail
  refine (BO x _ _ _ (aZ h bA) HW.out).mono ?_;rintro e w1 ⟨gM,G1,rfl,jX,aR⟩;have bO:=jX.rd;obtain ⟨dG,bV,xq,dS,dJ,Bz,ar,hG1,oO,tq,wI,iV,gI,iW⟩:=aO bO;subst ar;clear hG1 bO;obtain ⟨cU,ek⟩:=ay aR;have VQ:w.heap.size < w1.heap.size:=sq aR.size;have iN:w.heap.size+1 < w1.heap.size:=sq aR.size;have ZF:w.heap.size+1+1 < w1.heap.size:=sq aR.size;have dy:=jX.lt;go_wp2_with fail
  refine (qM x _ _ _ (aZ h bA) HW.out).mono ?_;rw [HC.out];rintro e w2 ⟨rfl,am⟩;obtain ⟨bM,cB⟩:=ay am;have VR:w.heap.size < w2.heap.size:=sq am.size;have iP:w.heap.size+1 < w2.heap.size:=sq am.size;have ZG:w.heap.size+1+1 < w2.heap.size:=sq am.size;have VT:w1.heap.size < w2.heap.size:=sq am.size;go_wp2_with fail
  refine (pW u.pack u.spread u.soft _).mono ?_;rw [Du.out];rintro e w3 ⟨rfl,az⟩;obtain ⟨cw,hf3⟩:=ay az;have vx:w.heap.size < w3.heap.size:=sq az.size;have lV:w.heap.size+1 < w3.heap.size:=sq az.size;have Xc:w.heap.size+1+1 < w3.heap.size:=sq az.size;have vy:w1.heap.size < w3.heap.size:=sq az.size;have bj:ai w3 (w.heap.size+1+1+1) x [.slice dG x.O.length bV,.slice dS x.M.length dJ,.int .i64 x.next,.int .i64 x.weights.pack,.int .i64 x.weights.spread,.int .i64 x.weights.soft] G1:=(((jX.mono S').alloc _).ext am).ext az;have RZ:=I bj;clear jX bj h h';go_wp2_with fail
  try dsimp only
  iterate 60 (first | go_step | skip)
  refine bodyPost_ret (v:=.tuple #[.agg #[.slice dG x.O.length bV,.slice dS x.M.length dJ,.int .i64 x.next,.int .i64 u.pack,.int .i64 u.spread,.int .i64 u.soft],.int .i64 0]) (by simp [results,Tryz.results53,go_sem, *]) rfl ?_;rw [HF.out]
  first
   | refine ⟨[.slice dG x.O.length bV,.slice dS x.M.length dJ,.int .i64 x.next,.int .i64 u.pack,.int .i64 u.spread,.int .i64 u.soft],G1,rfl,?_,?_⟩
   | refine ⟨[.slice dG x.O.length bV,.slice dS x.M.length dJ,.int .i64 x.next,.int .i64 u.pack,.int .i64 u.spread,.int .i64 u.soft],rfl,⟨G1,?_⟩,?_⟩
  ·try dsimp only
   refine ai.mono (B:=w.heap.size+1+1+1) ?_ J;exact (by repeat (first | with_reducible exact (RZ.out.ag1 u Sr Jm Sv) | with_reducible refine ai.setCell ?_ bx _ | with_reducible refine OC ?_ (λy hy=>dy y hy)))
  ·exact m'
end Go.Proofs.YtdegaofigemegaaGreat
