/- BestHost, of the program and of the reference. No condition. -/
import Derived.Test.YtjahcnjmjahbaaaGreatCopyS
import Derived.Test.YtjahcnjmjahbaaaGreatSortLabelsS
import Derived.Deep.CutRange
import Derived.Test.YtjahcnjmjahbaaaGreatSeqMap
namespace Go.Proofs.YtjahcnjmjahbaaaGreat
open Go.ChangeShapes Go.WideShapes Go.ChangeAt Go.RowKit
set_option linter.unusedVariables false
set_option linter.unusedSimpArgs false
set_option maxHeartbeats 8000000
set_option maxRecDepth 100000
def oD (x:aU) (p:nI):ByteArray:=(Jh x p).headD ⟨#[]⟩
def AJ (x:aU) (p:nI):Bool:=!(Jh x p).isEmpty
theorem ahX (x:aU) (p:nI) (cs ps:List Value) (F G:List Nat) (w:World) (h:rd w x cs F) (h':rd w p ps G) (hw:(x.wt:Int)<=1048576) (ic:(p.wt:Int)<=1048576) :
 Calls Tryz.prog 24 #[.agg cs.toArray,.agg ps.toArray] w λe w'=>e = .returned (.tuple #[.string (oD x p),.bool (AJ x p)])/\Below w.heap.size w w':=by
 have HW:=I hw;have Uc:=I ic;clear hw ic;have hr:=h;have cJ:=h';obtain ⟨bG,bD,fQ,dn,bW,jg,aq,hF,bQ,dM,hnext,aV,aP,aW⟩:=aO hr;obtain ⟨bY,bZ,iq,eU,eX,jV,bg,bn,dK,jU,hG,jW,dA,kQ,lg,lG,iO,bK⟩:=dL cJ;subst aq jU;clear hF hG hr cJ;have HB:=I (show ∀l,Jh x p = l->oD x p = l.headD ⟨#[]⟩/\AJ x p = !l.isEmpty from λl hl=>by unfold oD AJ;rw [hl];exact ⟨rfl,rfl⟩);go_enter Tryz.func24,Tryz.ntmps24;go_wp2_with fail
 refine (Xh x p _ _ _ _ _ (aJ h cc) (aJ h' cc) HW.out Uc.out).mono ?_;rintro e w1 ⟨A,c,G1,rfl,hO,bi⟩;have rS:Below w.heap.size w w1:=ah cc bi;obtain ⟨l,hl⟩:∃l,Jh x p = l:=⟨_,rfl⟩;rw [hl] at hO |-;have HL:=I (HB.out l hl);clear hl;cases l with
 | nil =>
   simp only [List.length_nil] at hO |-;go_wp2;go_ret2
   exact ⟨by rw [HL.out.1,HL.out.2];rfl,rS⟩
 | cons y ys =>
   have am:(0:Nat) < (y :: ys).length:=S';obtain ⟨b,o,ck,Fk,hA,hbG,hbs,aJe,_,hcells⟩:=Sl.get hO.rd am;subst hA;obtain ⟨aq,su,eJ⟩:=aJe;subst aq;have oC:w1.cell? ⟨b,o,none⟩ = some (.string y):=(by have:=hcells 0 _ rfl;simpa using this);have bN:(((y :: ys).length:Int) == 0) = false:=(by simp;omega);clear hcells hO eJ;obtain ⟨n,hn⟩:∃n,(y :: ys).length = n:=⟨_,rfl⟩;rw [hn] at am bN |-;clear hn;go_wp2;go_ret2
   exact ⟨by rw [HL.out.1,HL.out.2];rfl,rS⟩
theorem ai.AK {α β:Type} [bd α] [bd β] {w:World} {B:Nat} {x:α} {y:β} {c1 c2:List Value} {F1 F2:List Nat} (h1:ai w B x c1 F1) (h2:ai w B y c2 F2) (hd:∀b∈F1,b∉F2):ai w B (x,y) (c1++c2) (F1++F2):=by
 exact CZ
theorem ai.aFY {w:World} {B:Nat} {x:aU} {Ah Ap:Option Addr} {nh ch np cp:Nat} {n p q f:Int} {G:List Nat} (h:ai w B x [.slice Ah nh ch,.slice Ap np cp,.int .i64 n,.int .i64 p,.int .i64 q,.int .i64 f] G) :
 ∃Gh Gp,ai w B x.aa [.slice Ah nh ch] Gh/\ai w B x.O [.slice Ap np cp] Gp/\(∀y∈Gh,y∉Gp)/\(∀y∈Gh,y∈G)/\(∀y∈Gp,y∈G):=by
 obtain ⟨⟨c1,c2,F1,F2,e1,rfl,hh,d1,d2,G1,G2,e3,rfl,hp,g1,g2,H1,H2,e5,e6,⟨e7,e8,hn⟩,fS⟩,hnd,hb,fk⟩:=h;obtain ⟨A,c,rfl,_⟩:=jB hh;obtain ⟨A2,c2',rfl,_⟩:=jB hp;subst e7 e5 e3;simp only [List.cons_append,List.nil_append,List.cons.injEq] at e1;obtain ⟨ea,eb,_⟩:=e1;rw [List.nodup_append,List.nodup_append] at hnd;refine ⟨F1,G1,⟨by rw [ea];exact hh,hnd.1,λy hy=>hb y (by simp [hy]),λy hy=>fk y (by simp [hy])⟩,⟨by rw [eb];exact hp,hnd.2.1.1,λy hy=>hb y (by simp [hy]),λy hy=>fk y (by simp [hy])⟩,λy hy mx=>hnd.2.2 y hy y (by simp [mx]) rfl,λy hy=>by simp [hy],λy hy=>by simp [hy]⟩
theorem ai.aFZ {w:World} {B:Nat} {H:List az} {Q:List ag} {Ah Ap:Option Addr} {nh ch np cp:Nat} {n p q f:Int} {Gh Gp:List Nat} (h:ai w B H [.slice Ah nh ch] Gh) (k:ai w B Q [.slice Ap np cp] Gp) (hd:∀y∈Gh,y∉Gp) (hn:aR n) (hp:aR p) (hq:aR q) (hf:aR f) :
 ai w B (⟨H,Q,n,⟨p,q,f⟩⟩:aU) [.slice Ah nh ch,.slice Ap np cp,.int .i64 n,.int .i64 p,.int .i64 q,.int .i64 f] (Gh++Gp):=by
 refine ai.up (B':=B) (λx:aU=>(x.aa,x.O,x.next,x.weights)) ?_ (Nat.le_refl _);have h5:ai w B (⟨p,q,f⟩:rZ) ([.int .i64 p]++([.int .i64 q]++[.int .i64 f])) []:=by exact C'
 have h6:=ai.cons (jL w n hn) h5;have h7:=ai.AK h (ai.AK k h6 (λb _ hb=>by cases hb)) (λb hb d8=>hd b hb (by simpa using d8));simpa using h7
theorem ai.kr {w:World} {B:Nat} {p:ag} {ck:List Value} {F:List Nat} (h:ai w B p ck F) (s:ByteArray) (hs:s.size<=maxLen):ai w B (⟨p.aS,s,p.seq⟩:ag) (ck.set 7 (.string s)) F:=by
 obtain ⟨⟨c1,c2,F1,F2,rfl,rfl,QS,c3,c4,F3,F4,rfl,rfl,⟨rfl,rfl,eI⟩,⟨rfl,rfl,Ue⟩⟩,hnd,hb,fk⟩:=h;have hl:c1.length = 7:=bd.len QS;have e:(c1++([Value.string p.on]++[Value.int .i64 p.seq])).set 7 (.string s) = c1++([.string s]++[.int .i64 p.seq]):=by rw [List.set_append_right _ _ J,hl];rfl
 rw [e];exact ⟨⟨c1,_,F1,_,rfl,rfl,QS,_,_,_,_,rfl,rfl,⟨rfl,rfl,hs⟩,⟨rfl,rfl,Ue⟩⟩,hnd,hb,fk⟩
def AM (x:aU) (k:Nat) (q:ag):aU × ByteArray × Int :=
 if q.on.size = 0 then (if AJ x q.aS = true then (⟨x.aa,x.O.set k ⟨q.aS,oD x q.aS,q.seq⟩,x.next,x.weights⟩,oD x q.aS,0) else (x,⟨#[]⟩,6)) else (x,⟨#[]⟩,5)
def jA (x:aU) (nm:ByteArray):aU × ByteArray × Int :=
 if iI x = true then (match x.O[(pK (CG nm) x.O).toNat]? with
   | some q=>if pK (CG nm) x.O < 0 then (x,⟨#[]⟩,3) else AM x (pK (CG nm) x.O).toNat q
   | none=>(x,⟨#[]⟩,3))
 else (x,⟨#[]⟩,1)
theorem azY {x:aU} {nm:ByteArray} (h:iI x = false):jA x nm = (x,⟨#[]⟩,1):=by unfold jA;rw [h];rfl
theorem aJ3 {x:aU} {nm:ByteArray} (h:iI x = true) (hn:pK (CG nm) x.O < 0):jA x nm = (x,⟨#[]⟩,3):=by
 unfold jA;rw [if_pos h];split
 ·exact if_pos hn
 ·rfl
theorem aw9 {x:aU} {nm:ByteArray} {k:Nat} (h:iI x = true) (eZ:pK (CG nm) x.O = k) (hk:k < x.O.length):jA x nm = AM x k x.O[k]:=by
 unfold jA;rw [if_pos h,eZ,Int.toNat_natCast,List.getElem?_eq_getElem hk];exact if_neg J
theorem aCF (x:aU) (p:nI) (hw:(x.wt:Int)<=1048576):((oD x p).size:Int)<=1048576:=by
 unfold oD;cases h:Jh x p with
 | nil=>exact (by decide:((⟨#[]⟩:ByteArray).size:Int)<=1048576)
 | cons y l =>
   have hm:y∈Jh x p:=(by rw [h];simp);unfold Jh at hm;rcases Zx _ _ hm with h1 | h1
   ·cases h1
   ·unfold Ar at h1;obtain ⟨z,hz,rfl⟩:=List.mem_map.1 h1;have h2:=Bq (f:=az.wt) (List.mem_filter.1 hz).1;have h3:az.wt z = z.name.size+kL ao.wt z.labels+kL iU.wt z.aT:=rfl;have h4:x.wt = kL az.wt x.aa+kL ag.wt x.O:=rfl;show ((z.name).size:Int)<=_;omega
def yq (x:aU) (nm:ByteArray):Bool:=(jA x nm).2.2 == 0
def BX (x:aU):aU × ByteArray × ByteArray × Int :=
 if iI x = true then
   (match (GI x.O).find? (yq x) with
   | some nm=>((jA x nm).1,nm,(jA x nm).2.1,0)
   | none=>(x,⟨#[]⟩,⟨#[]⟩,if (GI x.O).length = 0 then 7 else 6))
 else (x,⟨#[]⟩,⟨#[]⟩,1)
theorem aJ4 {x:aU} (h:iI x = false):BX x = (x,⟨#[]⟩,⟨#[]⟩,1):=by unfold BX;rw [h];rfl
theorem aJi {x:aU} (hc:iI x = true) {k:Nat} (hk:k < (GI x.O).length) (hb:∀j (hj:j < (GI x.O).length),j < k->yq x (GI x.O)[j] = false) (h:yq x (GI x.O)[k] = true):BX x = ((jA x (GI x.O)[k]).1,(GI x.O)[k],(jA x (GI x.O)[k]).2.1,0):=by
 have e:(GI x.O).find? (yq x) = some (GI x.O)[k]:=List.find?_eq_some_iff_getElem.2 ⟨h,k,hk,rfl,λj hj=>by rw [hb j J hj];rfl⟩;unfold BX;rw [if_pos hc,e]
theorem aIp {x:aU} (hc:iI x = true) (hb:∀j (hj:j < (GI x.O).length),yq x (GI x.O)[j] = false):BX x = (x,⟨#[]⟩,⟨#[]⟩,if (GI x.O).length = 0 then 7 else 6):=by
 have e:(GI x.O).find? (yq x) = none:=List.find?_eq_none.2 λy hy=>by
  obtain ⟨j,hj,rfl⟩:=List.getElem_of_mem hy;rw [hb j hj];simp
 unfold BX;rw [if_pos hc,e]
theorem azU {P:Program} {l:List Oper} {C:World->Prop} {Q:Exit->Act->World->Prop} {id:Nat} {a:Act} {w:World} (n:Nat) (hm:P.follows .mixedOrders = true) (hn:l.toArray.size = n) (hw:C w.drew)
 (h:mU P l Q C n (Array.replicate n false) a w.drew):(Code.region id l.toArray true).wp P Q a w:=by
 subst hn;exact wp_region_held_drew (S:=C) hm hw λ_=>h
theorem I1 {α:Type} [bd α] {w:World} {B c i:Nat} {u:Value} {x:α} {cs:List Value} {F:List Nat} (h:ai w B x cs F) (hF:∀y∈F,y≠c):ai (w.setCell ⟨c,i,none⟩ u) B x cs F :=
 h.keep (λy hy=>Below.heap_setCell _ _ _ _ D0) d9
def sY (x:az):az:=⟨x.name,(BG x.labels).1,x.aw,x.mem,x.slots,(Fq x.aT).1⟩
def bf (x:az):az × Bool:=if (BG x.labels).2 = true/\(Fq x.aT).2 = true/\Aj (sY x) = true then (sY x,true) else (x,false)
theorem aCl (x:az):(sY x).wt<=x.wt:=by
 have h1:=aJZ x.labels;have h2:=azM x.aT;unfold sY az.wt;dsimp only;omega
def tv (x:nI):nI:=⟨x.name,(BG x.labels).1,x.aw,x.mem,x.av,(ke x.af).1,(kz x.ae).1⟩
def jf (x:nI):nI × Bool:=if (BG x.labels).2 = true/\(ke x.af).2 = true/\(kz x.ae).2 = true/\GU (tv x) = true then (tv x,true) else (x,false)
theorem aDX (x:nI):(tv x).wt<=x.wt:=by
 have h1:=aJZ x.labels;have h2:=aAu x.af;have h3:=aBz x.ae;unfold tv nI.wt;dsimp only;omega
theorem ai.Xz {α β:Type} [bd α] [bd β] {w:World} {B:Nat} {x:α} {y:β} {c1 c2:List Value} {F1 F2:List Nat} (h1:ai w B x c1 F1) (h2:ai w B y c2 F2) (hd:∀b∈F1,b∉F2):ai w B (x,y) (c1++c2) (F1++F2):=by
 exact CZ
theorem ai.aEC {w:World} {B:Nat} {x:aU} {Ah Ap:Option Addr} {nh ch np cp:Nat} {n p q f:Int} {G:List Nat} (h:ai w B x [.slice Ah nh ch,.slice Ap np cp,.int .i64 n,.int .i64 p,.int .i64 q,.int .i64 f] G) :
 ∃Gh Gp,ai w B x.aa [.slice Ah nh ch] Gh/\ai w B x.O [.slice Ap np cp] Gp/\(∀y∈Gh,y∉Gp)/\(∀y∈Gh,y∈G)/\(∀y∈Gp,y∈G):=by
 obtain ⟨⟨c1,c2,F1,F2,e1,rfl,hh,d1,d2,G1,G2,e3,rfl,hp,g1,g2,H1,H2,e5,e6,⟨e7,e8,hn⟩,fS⟩,hnd,hb,fk⟩:=h;obtain ⟨A,c,rfl,_⟩:=jB hh;obtain ⟨A2,c2',rfl,_⟩:=jB hp;subst e7 e5 e3;simp only [List.cons_append,List.nil_append,List.cons.injEq] at e1;obtain ⟨ea,eb,_⟩:=e1;rw [List.nodup_append,List.nodup_append] at hnd;refine ⟨F1,G1,⟨by rw [ea];exact hh,hnd.1,λy hy=>hb y (by simp [hy]),λy hy=>fk y (by simp [hy])⟩,⟨by rw [eb];exact hp,hnd.2.1.1,λy hy=>hb y (by simp [hy]),λy hy=>fk y (by simp [hy])⟩,λy hy mx=>hnd.2.2 y hy y (by simp [mx]) rfl,λy hy=>by simp [hy],λy hy=>by simp [hy]⟩
theorem ai.SP {w:World} {B:Nat} {H:List az} {Q:List ag} {Ah Ap:Option Addr} {nh ch np cp:Nat} {n p q f:Int} {Gh Gp:List Nat} (h:ai w B H [.slice Ah nh ch] Gh) (k:ai w B Q [.slice Ap np cp] Gp) (hd:∀y∈Gh,y∉Gp) (hn:aR n) (hp:aR p) (hq:aR q) (hf:aR f) :
 ai w B (⟨H,Q,n,⟨p,q,f⟩⟩:aU) [.slice Ah nh ch,.slice Ap np cp,.int .i64 n,.int .i64 p,.int .i64 q,.int .i64 f] (Gh++Gp):=by
 refine ai.up (B':=B) (λx:aU=>(x.aa,x.O,x.next,x.weights)) ?_ (Nat.le_refl _);have h5:ai w B (⟨p,q,f⟩:rZ) ([.int .i64 p]++([.int .i64 q]++[.int .i64 f])) []:=by exact C'
 have h6:=ai.cons (jL w n hn) h5;have h7:=ai.Xz h (ai.Xz k h6 (λb _ hb=>by cases hb)) (λb hb d8=>hd b hb (by simpa using d8));simpa using h7
theorem Ei {P:Program} {t e:TypeId} {z:Value} {size bytes:Nat} (hE:DL P t e z size bytes) {o:Oper} {a:Act} {K:Act->World->Prop} {Q:Exit->Act->World->Prop} (s x:Operand)
 (ho:o.op = .call { callee:=.builtin .append,args:=#[s,x],argTypes:=#[t,t] })
 (w:World) (base:Nat) (v:Value) (n:Nat) (xs:List Value) (ar:w.ownsRow base e size v n xs) (hs:a.eval s = v) (c:Nat) (hx:a.eval x = .slice none 0 c)
 (h:∀v' w',w'.ownsRow base e size v' (n+0) (xs++[])->w.grownBy w' v.ownBlock->(v'.ownBlock = v.ownBlock∨v'.ownBlock = some w.heap.size)->K (a.put o.dst v') w'):o.wp P a w K Q:=by
 obtain ⟨ht,hi0,kX,eJ⟩:=hE;obtain ⟨i,hi,hz,hsize,hb⟩:=info_parts hi0;have fin:∀(A2:Option Addr) (cap:Nat),v = .slice A2 n cap->n<=cap->o.wp P a w K Q:=by intro A2 cap hv eC;have hr:=run_append_nothing (P:=P) w t t o.type e i ht hi A2 n cap eC (.slice none 0 c) (Src.ofNil w ht c);unfold Oper.wp execOp;simp only [ho,resolve,invoke,builtin,Sem.run_bind,Sem.run_pure,Result.andThen_ok,List.map_toArray,List.map_cons,List.map_nil,hs,hv,hx,hr];subst hv;exact h _ w (by simpa using ar) ⟨rfl,rfl,rfl,Nat.le_refl _,λ_ _ _=>rfl⟩ (.inl rfl)
 rcases ar.2 with ⟨hv,ie⟩ | ⟨g,cap,bp,hv,_,_,eC,_⟩
 ·exact fin none 0 (by rw [hv,ie]) J
 ·exact fin _ cap hv eC
theorem aJS {P:Program} {t e:TypeId} {z:Value} {size bytes:Nat} (hE:DL P t e z size bytes) {ops:Array Oper} {rest:List Oper} {o:Oper} {a:Act} {Q:Exit->Act->World->Prop} (vf:o.guard = none) (s x:Operand)
 (ho:o.op = .call { callee:=.builtin .append,args:=#[s,x],argTypes:=#[t,t] })
 (w:World) (base:Nat) (v:Value) (n:Nat) (xs:List Value) (ar:w.ownsRow base e size v n xs) (hs:a.eval s = v) (c:Nat) (hx:a.eval x = .slice none 0 c)
 (h:∀v' w',w'.ownsRow base e size v' (n+0) (xs++[])->w.grownBy w' v.ownBlock->(v'.ownBlock = v.ownBlock∨v'.ownBlock = some w.heap.size)->wpList P ops Q rest (a.put o.dst v') w'):wpList P ops Q (o :: rest) a w :=
 wpList_plain vf λK hK=>Ei hE s x ho w base v n xs ar hs c hx λv' w' h1 h2 h3=>hK _ _ (h v' w' h1 h2 h3)
theorem ax7 {α:Type} [bd α] {w:World} {B c i:Nat} {u:Value} {x:α} {cs:List Value} {F:List Nat} (h:ai w B x cs F) (hF:∀y∈F,y≠c):ai (w.setCell ⟨c,i,none⟩ u) B x cs F :=
 h.keep (λy hy=>Below.heap_setCell _ _ _ _ D0) d9
def Ek (nm:ByteArray) (h:az):Bool:=Op.bytesLess h.name.toList nm.toList
def fI (nm:ByteArray) (xs:List az):Nat:=(xs.takeWhile (Ek nm)).length
theorem XC (nm:ByteArray) (xs:List az):fI nm xs<=xs.length:=by
 unfold fI;induction xs with
 | nil=>simp
 | cons a l ih=>rw [List.takeWhile_cons];split <;> simp <;> omega
theorem XD {nm:ByteArray} : ∀{xs:List az} {k:Nat},k < fI nm xs->∀(hk:k < xs.length),Ek nm xs[k] = true
 | [],_,h,hk=>absurd hk S'
 | a :: l,0,h,hk=>by
   unfold fI at h;rw [List.takeWhile_cons] at h;split at h
   ·rename_i h2;simpa using h2
   ·simp at h
 | a :: l,k+1,h,hk=>by
   unfold fI at h;rw [List.takeWhile_cons] at h;split at h
   ·simp only [List.getElem_cons_succ];exact XD (xs:=l) (by unfold fI;simpa using h) Tx
   ·simp at h
theorem XE {nm:ByteArray} : ∀{xs:List az} (hk:fI nm xs < xs.length),Ek nm xs[fI nm xs] = false
 | [],hk=>absurd hk S'
 | a :: l,hk=>by
   by_cases h:Ek nm a = true
   ·have e:fI nm (a :: l) = fI nm l+1:=(by unfold fI;rw [List.takeWhile_cons,if_pos h];rfl);have:=XE (nm:=nm) (xs:=l) (by rw [e] at hk;simpa using hk);simp only [e,List.getElem_cons_succ];exact this
   ·have e:fI nm (a :: l) = 0:=(by unfold fI;rw [List.takeWhile_cons,if_neg h];rfl);simp only [e,List.getElem_cons_zero];simpa using h
theorem XF {nm:ByteArray} {xs:List az} {k:Nat} (h1:k<=fI nm xs) (h2:∀hk:k < xs.length,Ek nm xs[k] = false):k = fI nm xs:=by
 have:=XC nm xs;by_cases h:k < fI nm xs
 ·have h3:=XD h J;rw [h2 J] at h3;cases h3
 ·omega
def m' (x:aU) (u:az):aU × Int :=
 if iI x = true/\(bf u).2 = true then (if 0<=pK (iM (bf u).1.name) x.aa then (x,2) else if 8<=x.aa.length then (x,4) else (⟨fL (fI (bf u).1.name x.aa) (bf u).1 x.aa,x.O,x.next,x.weights⟩,0)) else (x,1)
def ER (nm:ByteArray) (h:ag):Bool:=Op.bytesLess h.aS.name.toList nm.toList
def fg (nm:ByteArray) (xs:List ag):Nat:=(xs.takeWhile (ER nm)).length
theorem Ys (nm:ByteArray) (xs:List ag):fg nm xs<=xs.length:=by
 unfold fg;induction xs with
 | nil=>simp
 | cons a l ih=>rw [List.takeWhile_cons];split <;> simp <;> omega
theorem Yv {nm:ByteArray} : ∀{xs:List ag} {k:Nat},k < fg nm xs->∀(hk:k < xs.length),ER nm xs[k] = true
 | [],_,h,hk=>absurd hk S'
 | a :: l,0,h,hk=>by
   unfold fg at h;rw [List.takeWhile_cons] at h;split at h
   ·rename_i h2;simpa using h2
   ·simp at h
 | a :: l,k+1,h,hk=>by
   unfold fg at h;rw [List.takeWhile_cons] at h;split at h
   ·simp only [List.getElem_cons_succ];exact Yv (xs:=l) (by unfold fg;simpa using h) Tx
   ·simp at h
theorem Yw {nm:ByteArray} : ∀{xs:List ag} (hk:fg nm xs < xs.length),ER nm xs[fg nm xs] = false
 | [],hk=>absurd hk S'
 | a :: l,hk=>by
   by_cases h:ER nm a = true
   ·have e:fg nm (a :: l) = fg nm l+1:=(by unfold fg;rw [List.takeWhile_cons,if_pos h];rfl);have:=Yw (nm:=nm) (xs:=l) (by rw [e] at hk;simpa using hk);simp only [e,List.getElem_cons_succ];exact this
   ·have e:fg nm (a :: l) = 0:=(by unfold fg;rw [List.takeWhile_cons,if_neg h];rfl);simp only [e,List.getElem_cons_zero];simpa using h
theorem Yx {nm:ByteArray} {xs:List ag} {k:Nat} (h1:k<=fg nm xs) (h2:∀hk:k < xs.length,ER nm xs[k] = false):k = fg nm xs:=by
 have:=Ys nm xs;by_cases h:k < fg nm xs
 ·have h3:=Yv h J;rw [h2 J] at h3;cases h3
 ·omega
def d7 (x:aU) (n:nI):ag:=⟨n,⟨#[]⟩,x.next⟩
theorem aAf {x:aU} (h:iI x = true):1<=x.next/\x.next<=1000000000:=by
 unfold iI Em at h;simp only [Bool.and_eq_true,decide_eq_true_eq] at h;exact h.1.2.2.1
def lR (x:aU) (u:nI):aU × Int :=
 if iI x = true/\(jf u).2 = true then (if 0<=pK (CG (jf u).1.name) x.O then (x,2) else if 12<=x.O.length∨1000000000<=x.next then (x,4) else (⟨x.aa,fL (fg (jf u).1.name x.O) (d7 x (jf u).1) x.O,x.next+1,x.weights⟩,0)) else (x,1)
theorem ai.d7 {w:World} {B:Nat} {x:aU} {n:nI} {cs:List Value} {G:List Nat} (h:ai w B n cs G) (hn:aR x.next):ai w B (d7 x n) (cs++[.string ⟨#[]⟩,.int .i64 x.next]) G:=by
 have h5:ai w B ((⟨#[]⟩:ByteArray),x.next) ([.string ⟨#[]⟩]++[.int .i64 x.next]) []:=ai.cons (rdStr w ⟨#[]⟩ (rV (Nat.zero_le _))) (ai.flat (jL w x.next hn));have h6:=ai.Xz h h5 (λ_ _ hb=>by cases hb);rw [List.append_nil] at h6;exact ai.up (B':=B) (λx:ag=>(x.aS,x.on,x.seq)) h6 (Nat.le_refl _)
theorem SL (x:az) (cs:List Value) (F:List Nat) (w:World) (h:rd w x cs F) (hw:(x.wt:Int)<=1048576) :
 Calls Tryz.prog 188 #[.agg cs.toArray] w λe w'=>∃ds G,e = .returned (.tuple #[.agg ds.toArray,.bool (bf x).2])/\ai w' w.heap.size (bf x).1 ds G/\Below w.heap.size w w':=by
 have h0:=h;obtain ⟨gu,gy,jw,kJ,kK,qU,aq,qp,hname,dO,vg,b8,uI,jq⟩:=iy h;subst aq;clear qp h;have HX:=I h0;have Du:=I hw;clear h0;have fv:x.wt = x.name.size+kL ao.wt x.labels+kL iU.wt x.aT:=rfl;have cU:(x.labels.length:Int)<=1048576:=by have:=gJ ao.wt x.labels;omega
 have dm:(x.aT.length:Int)<=1048576:=by have:=gJ iU.wt x.aT;omega
 have oy:∀l∈x.labels,(l.key.size:Int)<=1048576/\(l.value.size:Int)<=1048576:=λl hl=>by have h9:=Bq (f:=ao.wt) hl;have h8:ao.wt l = l.key.size+l.value.size:=rfl;omega
 have pT:∀l∈x.aT,(l.key.size:Int)<=1048576/\(l.value.size:Int)<=1048576:=λl hl=>by have h9:=Bq (f:=iU.wt) hl;have h8:iU.wt l = l.key.size+l.value.size:=rfl;omega
 have S0:rB w (((w.alloc (.cells #[.string x.name,.slice gu x.labels.length gy,.int .i64 x.aw,.int .i64 x.mem,.int .i64 x.slots,.slice kJ x.aT.length kK] 38)).alloc (.cells #[.string ⟨#[]⟩,.slice none 0 0,.int .i64 0,.int .i64 0,.int .i64 0,.slice none 0 0] 38)).alloc (.cells #[.string x.name,.slice gu x.labels.length gy,.int .i64 x.aw,.int .i64 x.mem,.int .i64 x.slots,.slice kJ x.aT.length kK] 38)) [.string x.name,.slice gu x.labels.length gy,.int .i64 x.aw,.int .i64 x.mem,.int .i64 x.slots,.slice kJ x.aT.length kK] [.string ⟨#[]⟩,.slice none 0 0,.int .i64 0,.int .i64 0,.int .i64 0,.slice none 0 0] [.string x.name,.slice gu x.labels.length gy,.int .i64 x.aw,.int .i64 x.mem,.int .i64 x.slots,.slice kJ x.aT.length kK]:=rB.new w _ _ _ 38 38 38;obtain ⟨v0,sL⟩:∃v0,(((w.alloc (.cells #[.string x.name,.slice gu x.labels.length gy,.int .i64 x.aw,.int .i64 x.mem,.int .i64 x.slots,.slice kJ x.aT.length kK] 38)).alloc (.cells #[.string ⟨#[]⟩,.slice none 0 0,.int .i64 0,.int .i64 0,.int .i64 0,.slice none 0 0] 38)).alloc (.cells #[.string x.name,.slice gu x.labels.length gy,.int .i64 x.aw,.int .i64 x.mem,.int .i64 x.slots,.slice kJ x.aT.length kK] 38)) = v0:=⟨_,rfl⟩;rw [sL] at S0;have sn:=I sL;have i1:=S0.box.cell (i:=1) (u:=.slice gu x.labels.length gy) rfl;have j1:=S0.ob.lt;clear sL hw fv;go_enter Tryz.func188,Tryz.ntmps188;go_wp2_with fail
 rw [sn.out];clear sn;refine (aJR x.labels _ _ _ v0 (dO.ext S0.below) cU oy).mono ?_;obtain ⟨L1,b1,e1⟩:∃L b,BG x.labels = (L,b):=⟨_,_,rfl⟩;rw [e1];have E1:=I e1;clear e1 i1;rintro e w1 ⟨A1,c1,G1,rfl,jX,bi⟩;have T1:=S0.ext bi;replace jX:=jX.mono (B':=w.heap.size+1+1+1) J;obtain ⟨z1,cG⟩:∃z,z = w1.heap.size:=⟨_,rfl⟩;have Ep:=I (show ∀b∈G1,b < z1 from λb hb=>by rw [cG];exact jX.lt b hb);have XR:w.heap.size+1+1+1<=z1:=by have:=bi.size;omega
 clear bi;have i2:=T1.box.cell (i:=5) (u:=.slice kJ x.aT.length kK) rfl;have j2:=T1.ob.lt;go_wp2_with fail
 clear S0;refine (ayM x.aT _ _ _ w1 (jq.ext T1.below) dm pT).mono ?_;obtain ⟨L2,b2,e2⟩:∃L b,Fq x.aT = (L,b):=⟨_,_,rfl⟩;rw [e2];have E2:=I e2;clear e2 i2;rintro e w2 ⟨A2,c2,G2,rfl,bA,ap⟩;have T2:=T1.ext ap;replace bA:=bA.mono (B':=z1) (by have:=cG;omega);replace jX:=jX.ext ap;obtain ⟨z2,cr⟩:∃z,z = w2.heap.size:=⟨_,rfl⟩;have ya:=I (show ∀b∈G2,b < z2 from λb hb=>by rw [cr];exact bA.lt b hb);have XS:z1<=z2:=by have:=ap.size;omega
 clear ap;have k1:=T2.ob.cell (i:=1) (u:=.slice gu x.labels.length gy) rfl;have f1:=T2.ob.fz 1;have S1:=T2.put 1 (.slice A1 L1.length c1);replace jX:=jX.setCell (p:=⟨w.heap.size+1+1,1,none⟩) bv (.slice A1 L1.length c1);replace bA:=bA.setCell (p:=⟨w.heap.size+1+1,1,none⟩) bv (.slice A1 L1.length c1);have k2:=T2.ob.cell (i:=5) (u:=.slice kJ x.aT.length kK) rfl;have f2:=T2.ob.fz 5;have S2:=S1.put 5 (.slice A2 L2.length c2);replace jX:=jX.setCell (p:=⟨w.heap.size+1+1,5,none⟩) bv (.slice A2 L2.length c2);replace bA:=bA.setCell (p:=⟨w.heap.size+1+1,5,none⟩) bv (.slice A2 L2.length c2);have l9:=T2.ob.lt;go_upto_region 6 with fail
 obtain ⟨v2,hv⟩:∃v,((w2.setCell ⟨w.heap.size+1+1,1,none⟩ (.slice A1 L1.length c1)).setCell ⟨w.heap.size+1+1,5,none⟩ (.slice A2 L2.length c2)) = v:=⟨_,rfl⟩;have hs:v2.heap.size = z2:=by rw [<- hv,cr];simp [World.setCell]
 rw [hv] at S2 jX bA;try rw [hv]
 clear hv T2 k1 f1 k2 f2 l9 cr;have cr:=hs;clear hs
 have gb:=I (show ai v2 (w.heap.size+1+1+1) (⟨x.name,L1,x.aw,x.mem,x.slots,L2⟩:az) [.string x.name,.slice A1 L1.length c1,.int .i64 x.aw,.int .i64 x.mem,.int .i64 x.slots,.slice A2 L2.length c2] (G1++G2) from by
  refine ai.up (B':=w.heap.size+1+1+1) (λx:az=>(x.name,x.labels,x.aw,x.mem,x.slots,x.aT)) ?_ (Nat.le_refl _);refine ai.cons (c1:=[.string x.name]) (rdStr _ x.name (rV hname)) ?_;refine ai.pair (B2:=z1) (c1:=[.slice A1 L1.length c1]) (F1:=G1) jX ?_ J Ep.out;refine ai.cons (c1:=[.int .i64 x.aw]) (jL _ x.aw vg) ?_;refine ai.cons (c1:=[.int .i64 x.mem]) (jL _ x.mem b8) ?_;refine ai.cons (c1:=[.int .i64 x.slots]) (jL _ x.slots uI) ?_
  exact bA)
 have HN:=I (show sY x = ⟨x.name,L1,x.aw,x.mem,x.slots,L2⟩ by unfold sY;rw [E1.out,E2.out]);have HR:=I (show bf x = if b1 = true/\b2 = true/\Aj (sY x) = true then (sY x,true) else (x,false) by unfold bf;rw [E1.out,E2.out]);have HS:=I S2;have HYW:=I (show ((sY x).wt:Int)<=1048576 by have:=aCl x;have:=Du.out;omega);clear jX bA S2;have q_:=HS.out.ob.lt;obtain ⟨p0,p1,p2,p3,p4,p5⟩:=cw HS.out.box;cases b1 with
 | false =>have o3:=I (show bf x = (x,false) by rw [HR.out];exact if_neg (by rintro ⟨hh,_⟩;cases hh));exact Lo
 | true =>
   cases b2 with
   | false =>have o3:=I (show bf x = (x,false) by rw [HR.out];exact if_neg (by rintro ⟨_,hh,_⟩;cases hh));exact Lo
   | true =>
     have HYN:=HN;cases hr:Aj (sY x) with
     | false =>
       have ia:=I hr;obtain ⟨q0,q1,q2,q3,q4,q5⟩:=cw HS.out.ob;go_wp2_with fail
       refine (tZ (⟨x.name,L1,x.aw,x.mem,x.slots,L2⟩:az) _ _ v2 gb.out.rd TB).mono ?_;rw [<- HN.out,ia.out];rintro e w7 ⟨rfl,bx⟩;have im:=I (HS.out.ext bx);have Tg:=I (gb.out.ext bx);clear p0 p1 p2 p3 p4 p5 q0 q1 q2 q3 q4 q5 q_ bx;have o3:=I (show bf x = (x,false) by rw [HR.out];exact if_neg (by rintro ⟨_,_,hh⟩;rw [ia.out] at hh;cases hh));have rr:=im.out.box.lt;obtain ⟨p0,p1,p2,p3,p4,p5⟩:=cw im.out.box;go_wp2_with fail
       refine (VE x _ _ w7 (SJ HX.out im.out.below) cU dm).mono ?_;rintro e w8 ⟨Vy,G8,rfl,sV,lA⟩;have T8:=im.out.ext lA;have SY:=sV;obtain ⟨sj,aHA,aJp,aIQ,aIR,aCm,ayd,hF9,aye,aJq,aAR,aAS,aDQ,aCn⟩:=iy sV.rd;subst ayd;clear hF9 sV;obtain ⟨r0,r1,r2,r3,r4,r5⟩:=cw T8.rb;have rf:=T8.rb.fz;have rl:=T8.rb.lt;have mj:=I SY;have H9:=I T8;have Vz:w.heap.size+1 < w7.heap.size:=im.out.rb.lt;clear SY T8 lA;go_wp2_with fail
       try dsimp only
       iterate 60 (first | go_step | skip)
       refine bodyPost_ret (v:=.tuple #[.agg #[.string x.name,.slice sj x.labels.length aHA,.int .i64 x.aw,.int .i64 x.mem,.int .i64 x.slots,.slice aIQ x.aT.length aIR],.bool false]) (by simp [results,Tryz.results188,go_sem, *]) rfl ⟨[.string x.name,.slice sj x.labels.length aHA,.int .i64 x.aw,.int .i64 x.mem,.int .i64 x.slots,.slice aIQ x.aT.length aIR],G8,by rw [o3.out];try rfl,?_,?_⟩
       ·rw [o3.out];refine ai.mono (B:=w7.heap.size) ?_ J;exact Ia
       ·exact SK
     | true =>
       have ia:=I hr;obtain ⟨q0,q1,q2,q3,q4,q5⟩:=cw HS.out.ob;go_wp2_with fail
       refine (tZ (⟨x.name,L1,x.aw,x.mem,x.slots,L2⟩:az) _ _ v2 gb.out.rd TB).mono ?_;rw [<- HN.out,ia.out];rintro e w7 ⟨rfl,bx⟩;have im:=I (HS.out.ext bx);have Tg:=I (gb.out.ext bx);clear p0 p1 p2 p3 p4 p5 q0 q1 q2 q3 q4 q5 q_ bx;have C3:=I (show bf x = (sY x,true) by rw [HR.out];exact if_pos (by simp [ia.out]));obtain ⟨q0,q1,q2,q3,q4,q5⟩:=cw im.out.ob;obtain ⟨r0,r1,r2,r3,r4,r5⟩:=cw im.out.rb;have rf:=im.out.rb.fz;have rl:=im.out.rb.lt;have ql:=im.out.ob.lt;go_wp2_with fail
       try dsimp only
       iterate 60 (first | go_step | skip)
       refine bodyPost_ret (v:=.tuple #[.agg #[.string x.name,.slice A1 L1.length c1,.int .i64 x.aw,.int .i64 x.mem,.int .i64 x.slots,.slice A2 L2.length c2],.bool true]) (by simp [results,Tryz.results188,go_sem, *]) rfl ⟨[.string x.name,.slice A1 L1.length c1,.int .i64 x.aw,.int .i64 x.mem,.int .i64 x.slots,.slice A2 L2.length c2],G1++G2,by rw [C3.out];try rfl,?_,?_⟩
       ·exact ME
       ·exact (by repeat (first | with_reducible exact im.out.below | with_reducible refine aC ?_ bv _))
theorem AD {α:Type} {f:α->Nat} {xs:List α} {n b:Nat} (hl:xs.length<=n) (h:∀x∈xs,f x<=b):kL f xs<=n * (b+1):=by
 have key:∀ys:List α,(∀x∈ys,f x<=b)->kL f ys<=ys.length * (b+1):=by
  intro ys;induction ys with
  | nil=>intro _;simp [kL]
  | cons a l ih =>intro hh;have h1:=ih (λx hx=>hh x (List.mem_cons_of_mem _ hx));have h2:=hh a (List.mem_cons_self ..);unfold kL at *;simp only [List.length_cons,List.map_cons,List.sum_cons,Nat.add_mul,Nat.one_mul] at *;omega
 exact Nat.le_trans (key xs h) (Nat.mul_le_mul_right _ hl)
theorem PR {α:Type} {ok:α->Bool} {less:α->α->Bool} {most:Int} {xs:List α} (h:mw ok less most xs = true):(xs.length:Int)<=most/\∀x∈xs,ok x = true:=by
 unfold mw at h;rw [Bool.and_eq_true,decide_eq_true_eq] at h;refine ⟨h.1,λx hx=>?_⟩;obtain ⟨j,hj,rfl⟩:=List.getElem_of_mem hx;have:=List.all_eq_true.1 h.2 j (List.mem_range.2 hj);exact Nv
theorem Uo {s:ByteArray} (h:Cm s = true):s.size<=30:=by
 unfold Cm at h;rw [Bool.and_eq_true,decide_eq_true_eq] at h;omega
theorem Up {s:ByteArray} (h:AQ s = true):s.size<=20:=by
 unfold AQ at h;simp only [Bool.or_eq_true,Bool.and_eq_true,decide_eq_true_eq] at h;omega
theorem YT {s:ByteArray} (h:Qs s = true):s.size<=20:=by
 unfold Qs at h;exact sC
theorem IR {xs:List ao} (h:sD xs = true):kL ao.wt xs<=306:=by
 obtain ⟨h1,h2⟩:=PR h;refine AD (n:=6) (b:=50) J λl hl=>?_;have h3:=h2 l hl;unfold zX at h3;rw [Bool.and_eq_true] at h3;have:=Uo h3.1;have:=Up h3.2;have e:ao.wt l = l.key.size+l.value.size:=rfl;omega
theorem Uq {xs:List iU} (h:La xs = true):kL iU.wt xs<=204:=by
 obtain ⟨h1,h2⟩:=PR h;refine AD (n:=4) (b:=50) J λl hl=>?_;have h3:=h2 l hl;unfold Dp at h3;rw [Bool.and_eq_true,Bool.and_eq_true] at h3;have:=Uo h3.1.1;have:=Up h3.1.2;have e:iU.wt l = l.key.size+l.value.size:=rfl;omega
theorem PU {xs:List bH} (h:Ya xs = true):kL bH.wt xs<=204:=by
 obtain ⟨h1,h2⟩:=PR h;refine AD (n:=4) (b:=50) J λl hl=>?_;have h3:=h2 l hl;unfold Q5 at h3;simp only [Bool.and_eq_true] at h3;have h4:l.key.size<=30:=by
  have h5:=h3.1.1.1;rw [Bool.or_eq_true,Bool.and_eq_true] at h5;rcases h5 with h5 | h5
  ·exact Uo h5
  ·rw [toList_nil.1 h5.1];decide
 have:=Up h3.1.1.2;have e:bH.wt l = l.key.size+l.value.size:=rfl;omega
theorem Ur {xs:List aE} (h:kw xs = true):kL aE.wt xs<=460:=by
 obtain ⟨h1,h2⟩:=PR h;refine AD (n:=4) (b:=114) J λl hl=>?_;have h3:=h2 l hl;unfold uh at h3;rw [Bool.and_eq_true,Bool.and_eq_true] at h3;have h4:=Uo h3.1.1;have e:aE.wt l = l.key.size+It l.values:=rfl;have h5:It l.values<=84:=by
  have h6:=h3.2;split at h6
  ·rw [decide_eq_true_eq] at h6;rw [List.eq_nil_of_length_eq_zero h6];decide
  ·rw [Bool.and_eq_true] at h6;obtain ⟨h7,h8⟩:=PR h6.2;exact AD (n:=4) (b:=20) J λv hv=>Up (h8 v hv)
 omega
theorem aFM {h:az} (hr:Aj h = true):h.wt<=530:=by
 unfold Aj at hr;simp only [Bool.and_eq_true] at hr;have h1:=YT hr.1.1.1.1;have h2:=IR hr.1.1.1.2;have h3:=Uq hr.1.1.2;have e:h.wt = h.name.size+kL ao.wt h.labels+kL iU.wt h.aT:=rfl;omega
theorem aGv {p:nI} (hr:GU p = true):p.wt<=990:=by
 unfold GU at hr;simp only [Bool.and_eq_true] at hr;have h1:=YT hr.1.1.1.1.1;have h2:=IR hr.1.1.1.1.2;have h3:=Ur hr.1.1.1.2;have h4:=PU hr.1.1.2;have e:p.wt = p.name.size+kL ao.wt p.labels+kL aE.wt p.af+kL bH.wt p.ae:=rfl;omega
theorem Us {x:aU} (G:Good x):x.wt<=20000:=by
 have e:x.wt = kL az.wt x.aa+kL ag.wt x.O:=rfl;have h1:=AD (f:=az.wt) G.h8 (b:=530) λh hh=>aFM (G.ft h hh);have h2:=AD (f:=ag.wt) G.yn (b:=1010) λp hp=>by
  have h3:=aGv (G.rR p hp);have e2:p.wt = p.aS.wt+p.on.size:=rfl;have h4:p.on.size<=20:=by
   rcases G.vq p hp with h5 | ⟨h,hh,h5⟩
   ·rw [h5];decide
   ·rw [<- h5];exact YT (YR (G.ft h hh))
  omega
 omega
theorem aFN {x:aU} (G:Good x) (i:Nat):Good ⟨x.aa,x.O.eraseIdx i,x.next,x.weights⟩ :=
 have hs:(x.O.eraseIdx i).Sublist x.O:=List.eraseIdx_sublist ..
 ⟨G.h8,Nat.le_trans hs.length_le G.yn,G.n1,G.n2,G.wt,G.ft,λh hh=>(G.tB h hh).sub hs G.rR,G.hs,λp hp=>G.rR p (hs.subset hp),λp hp=>G.vp p (hs.subset hp),λp hp=>G.vq p (hs.subset hp),G.ps.sublist hs,G.pf.sublist hs⟩
theorem aCq {xs:List az} (h:xs.Pairwise λa b=>dQ a b = true) {i j:Nat} (hi:i < xs.length) (hj:j < xs.length) (ry:i≠j):xs[i].name≠xs[j].name:=by
 rcases Nat.lt_or_gt_of_ne ry with h1 | h1
 ·exact YS (List.pairwise_iff_getElem.1 h i j hi hj h1)
 ·exact (YS (List.pairwise_iff_getElem.1 h j i hj hi h1)).symm
theorem aFO {x:aU} (G:Good x) {n:az} (hn:Aj n = true) (ow:∀h∈x.aa,h.name≠n.name) (hl:x.aa.length < 8):Good ⟨fL (fI n.name x.aa) n x.aa,x.O,x.next,x.weights⟩:=by
 have hm:∀h,h∈fL (fI n.name x.aa) n x.aa↔h = n∨h∈x.aa:=by
  intro h;unfold fL;rw [List.mem_append,List.mem_cons];have e:h∈x.aa↔h∈x.aa.take (fI n.name x.aa)∨h∈x.aa.drop (fI n.name x.aa):=by
   rw [<- List.mem_append,List.take_append_drop]
  rw [e];constructor
  ·exact xo
  ·exact xo
 refine ⟨by dsimp only;rw [CD];omega,G.yn,G.n1,G.n2,G.wt,λh hh=>?_,λh hh=>?_,?_,G.rR,G.vp,λp hp=>?_,G.ps,G.pf⟩
 ·rcases (hm h).1 hh with rfl | hh
  ·exact hn
  ·exact G.ft h hh
 ·rcases (hm h).1 hh with rfl | hh
  ·have e:F7 h.name x.O = []:=by
    unfold F7;rw [List.map_eq_nil_iff,List.filter_eq_nil_iff];intro p hp eI;obtain ⟨h1,h2⟩:=YP.1 eI;rcases G.vq p hp with h3 | ⟨g,hg,h3⟩
    ·exact h1 (h2.symm.trans h3)
    ·exact ow g hg (h3.trans h2)
   have:=aFP hn;unfold iu kg;rw [e];simp only [List.map_nil,List.sum_nil,List.length_nil];omega
  ·exact G.tB h hh
 ·show (fL (fI n.name x.aa) n x.aa).Pairwise λa b=>dQ a b = true;unfold fL;have h0:=G.hs;rw [<- List.take_append_drop (fI n.name x.aa) x.aa,List.pairwise_append] at h0;have ha:∀a∈x.aa.take (fI n.name x.aa),dQ a n = true:=by
   intro a ha;obtain ⟨i,hi,rfl⟩:=List.mem_take_iff_getElem.1 ha;exact XD J J
  have hb:∀b∈x.aa.drop (fI n.name x.aa),dQ n b = true:=by
   intro b hb;obtain ⟨i,hi,rfl⟩:=List.mem_drop_iff_getElem.1 hb;have h1:dQ n (x.aa[fI n.name x.aa]'J) = true:=by
    have h2:=XE (nm:=n.name) (xs:=x.aa) J;have h3:=ow _ (List.getElem_mem (l:=x.aa) (n:=fI n.name x.aa) J);unfold Ek at h2;unfold dQ;cases h4:Op.bytesLess n.name.toList (x.aa[fI n.name x.aa]'J).name.toList with
    | true=>rfl
    | false=>exact absurd (eh (PC _ _ h2 h4)) h3
   cases i with
   | zero=>simpa using h1
   | succ i=>exact ayw _ _ _ h1 (List.pairwise_iff_getElem.1 G.hs _ _ J J J)
  exact MT
 ·rcases G.vq p hp with h3 | ⟨g,hg,h3⟩
  ·exact .inl h3
  ·exact .inr ⟨g,(hm g).2 (.inr hg),h3⟩
theorem aD4 {x:aU} (G:Good x) (u:az):Good (m' x u).1:=by
 unfold m';split
 ·rename_i hc;split
  ·exact G
  ·rename_i hx;split
   ·exact G
   ·rename_i hl;refine aFO G ?_ (λh hh e=>hx (PM.2 ⟨h,hh,EX.2 e⟩)) J;have h2:=hc.2;unfold bf at h2 |-;split
    ·rename_i h3;exact h3.2.2
    ·rename_i h3;rw [if_neg h3] at h2;cases h2
 ·exact G
theorem aCr {x:aU} (G:Good x) {n:nI} (hn:GU n = true) (ow:∀p∈x.O,p.aS.name≠n.name) (hl:x.O.length < 12) (hx:x.next < 1000000000):Good ⟨x.aa,fL (fg n.name x.O) (d7 x n) x.O,x.next+1,x.weights⟩:=by
 have hm:∀h,h∈fL (fg n.name x.O) (d7 x n) x.O↔h = d7 x n∨h∈x.O:=by
  intro h;unfold fL;rw [List.mem_append,List.mem_cons];have e:h∈x.O↔h∈x.O.take (fg n.name x.O)∨h∈x.O.drop (fg n.name x.O):=by
   rw [<- List.mem_append,List.take_append_drop]
  rw [e];constructor
  ·exact xo
  ·exact xo
 have am:∀{i:Nat} (hi:i < x.O.length),i < fg n.name x.O->dw x.O[i] (d7 x n) = true:=λhi h=>Yv h hi;have n1:=G.n1;refine ⟨G.h8,by dsimp only;rw [CD];omega,by dsimp only;omega,by dsimp only;omega,G.wt,G.ft,λh hh=>?_,G.hs,λp hp=>?_,λp hp=>?_,λp hp=>?_,?_,?_⟩
 ·refine (G.tB h hh).same ?_;show F7 h.name (fL _ _ _) = _;unfold fL;rw [IN,Aw (IP (.inl rfl)),<- IN,List.take_append_drop]
 ·rcases (hm p).1 hp with rfl | hp
  ·exact hn
  ·exact G.rR p hp
 ·rcases (hm p).1 hp with rfl | hp
  ·show 1<=x.next/\x.next<=x.next+1 - 1;omega
  ·have:=G.vp p hp;show 1<=p.seq/\p.seq<=x.next+1 - 1;omega
 ·rcases (hm p).1 hp with rfl | hp
  ·exact .inl rfl
  ·exact G.vq p hp
 ·show (fL (fg n.name x.O) (d7 x n) x.O).Pairwise λa b=>dw a b = true;unfold fL;have h0:=G.ps;rw [<- List.take_append_drop (fg n.name x.O) x.O,List.pairwise_append] at h0;have ha:∀a∈x.O.take (fg n.name x.O),dw a (d7 x n) = true:=by
   intro a ha;obtain ⟨i,hi,rfl⟩:=List.mem_take_iff_getElem.1 ha;exact am J J
  have hb:∀b∈x.O.drop (fg n.name x.O),dw (d7 x n) b = true:=by
   intro b hb;obtain ⟨i,hi,rfl⟩:=List.mem_drop_iff_getElem.1 hb;have h1:dw (d7 x n) (x.O[fg n.name x.O]'J) = true:=by
    have h2:=Yw (nm:=n.name) (xs:=x.O) J;have h3:=ow _ (List.getElem_mem (l:=x.O) (n:=fg n.name x.O) J);unfold ER at h2;unfold dw d7;dsimp only;cases h4:Op.bytesLess n.name.toList (x.O[fg n.name x.O]'J).aS.name.toList with
    | true=>rfl
    | false=>exact absurd (eh (PC _ _ h2 h4)) h3
   cases i with
   | zero=>simpa using h1
   | succ i=>exact axm _ _ _ h1 (List.pairwise_iff_getElem.1 G.ps _ _ J J J)
  exact MT
 ·show (fL (fg n.name x.O) (d7 x n) x.O).Pairwise λa b=>a.seq≠b.seq;unfold fL;have h0:=G.pf;rw [<- List.take_append_drop (fg n.name x.O) x.O,List.pairwise_append] at h0;have hq:∀p∈x.O,p.seq≠x.next:=λp hp=>by have:=G.vp p hp;omega
  rw [List.pairwise_append,List.pairwise_cons];refine ⟨h0.1,⟨λb hb=>(hq b (List.mem_of_mem_drop hb)).symm,h0.2.1⟩,λa MU b d8=>?_⟩;rcases List.mem_cons.1 d8 with rfl | d8
  ·exact hq a (List.mem_of_mem_take MU)
  ·exact h0.2.2 a MU b d8
theorem aD3 {x:aU} (G:Good x) (u:nI):Good (lR x u).1:=by
 unfold lR;split
 ·rename_i hc;split
  ·exact G
  ·rename_i hx;split
   ·exact G
   ·rename_i hl;refine aCr G ?_ (λh hh e=>hx (PM.2 ⟨h,hh,axF.2 e⟩)) J J;have h2:=hc.2;unfold jf at h2 |-;split
    ·rename_i h3;exact h3.2.2.2
    ·rename_i h3;rw [if_neg h3] at h2;cases h2
 ·exact G
theorem amH (b:Bool) (w:World):Calls Tryz.prog 133 #[.bool b] w λe w'=>e = .returned (.int .i64 (if b then 1 else 0))/\w' = w:=by
 cases b
 all_goals
  go_enter Tryz.func133,Tryz.ntmps133;go_wp2;go_ret
  exact ⟨rfl,rfl⟩
theorem ZC (x:nI) (cs:List Value) (F:List Nat) (w:World) (h:rd w x cs F) (hw:(x.wt:Int)<=1048576) :
 Calls Tryz.prog 13 #[.agg cs.toArray] w λe w'=>e = .returned (.string (Bg x))/\Below w.heap.size w w':=by
 have fv:x.wt = x.name.size+kL ao.wt x.labels+kL aE.wt x.af+kL bH.wt x.ae:=rfl;obtain ⟨dq,di⟩:=sW (xs:=x.labels) J;obtain ⟨mW,VU⟩:=Aa (xs:=x.af) J;obtain ⟨fu,dr⟩:=FQ (xs:=x.ae) J;have pg:(x.name.size:Int)<=1048576:=by omega
 have Zb:=I di;have qh:=I VU;have Ux:=I dr;clear di dr VU;have hr:=h;obtain ⟨gu,gy,jw,oh,nT,wG,fA,fB,jY,aq,hF,hname,dO,vg,b8,BJ,mX,eG⟩:=dL hr;subst aq;clear hr hF;cases hR:GU x with
 | false =>
   have bb:Bg x = ⟨#[]⟩:=(by unfold Bg;rw [hR];rfl);have HF:=I bb;have HR:=I hR;clear bb hR;go_enter Tryz.func13,Tryz.ntmps13;go_wp2_with fail
   refine (wH x _ _ _ (aJ h bc) hw).mono ?_;exact od
 | true =>
   have bb:Bg x = Ld x x.ae.length:=(by unfold Bg;rw [hR];rfl);have HF:=I bb;have HR:=I hR;clear bb hR;go_enter Tryz.func13,Tryz.ntmps13;go_wp2_with fail
   refine (wH x _ _ _ (aJ h bc) hw).mono ?_;rw [HR.out];rintro e w2 ⟨rfl,ap⟩;obtain ⟨bX,cE⟩:=ay ap;have cr:w.heap.size < w2.heap.size:=(sq ap.size);have lz:=iJ x.name J;have me:=IC x.labels dq Zb.out;have FH:=bM x.aw vg;have FJ:=bM x.mem b8;have FK:=bM x.av BJ;have ua:aR (x.af.length:Int):=(by unfold aR;omega);have Q4:aR (x.ae.length:Int):=(by unfold aR;omega);have FL:=bM x.af.length ua;have hq7:=bM x.ae.length Q4;have bj:w2.cell? ⟨w.heap.size,5,none⟩ = some (.slice oh x.af.length nT):=by exact pP
   have dx:w2.cell? ⟨w.heap.size,6,none⟩ = some (.slice fA x.ae.length fB):=by exact pP
   have eu:Below w.heap.size w w2:=bc;have Q6:=I mX.ag4;have FM:=I eG.akX;have Q2:(RF x).size<=2199046980000:=by unfold RF;simp only [ByteArray.size_append];omega
   go_wp2_with fail
   refine aF w2 U' U' (aj _) ?_
   repeat ((first | refine aG J' ?_ | refine aH _ J' LP ?_);simp only [Act.put,pz])
   refine aN ?_;intro wn hn;replace hn:=hn.out;have FN:=r' hn bj cr;have FO:=r' hn dx cr;go_wp2_with fail
   go_loopw [3,41] (λs i wr=>∃k:Nat,k<=x.af.length/\i = .int .i64 k/\s = .string (Bh x k)/\wr.cell? ⟨w.heap.size,5,none⟩ = some (.slice oh x.af.length nT)/\wr.cell? ⟨w.heap.size,6,none⟩ = some (.slice fA x.ae.length fB)/\Below w.heap.size w wr) (λ_ i _=>x.af.length - (intOf i).toNat)
   case atStart=>exact ⟨0,Nat.zero_le _,rfl,rfl,FN,FO,ah eu hn⟩
   case round =>
    obtain ⟨k,hk,rfl,rfl,iL,pC,ax⟩:=hrel;have dd:w.heap.size < wr.heap.size:=World.block_lt_of_cell? wr _ iL;by_cases am:k < x.af.length
    ·obtain ⟨b,o,ck,Fk,rfl,o9,hbs,hr,bm,hc⟩:=(Sl.ext (w':=wr) (A:=oh) (c:=nT) mX ax).get am;obtain ⟨DT,DU,alQ,aq,su,adC,hop3,abp⟩:=og hr;subst aq;obtain ⟨q0,q1,q2⟩:=iX 3 hc;clear hc;obtain ⟨cF,cC,hs3⟩:=qh.out x.af[k] (List.getElem_mem ..);have Ab:=iJ x.af[k].key J;have oz:=bM x.af[k].op hop3;have FP:aR (x.af[k].values.length:Int):=(by unfold aR;omega);have x5:=bM x.af[k].values.length FP;have PE:=Gf x qh.out Q6.out k hk;have lU:k * 1099523200000<=1048576 * 1099523200000:=Nat.mul_le_mul_right _ J;have Jf:=I (TP am);have HVS:=I (RG cF hop3 cC hs3);have HS3:=I hs3;clear hs3;generalize hS:Bh x k = S0 at Jf PE |-;obtain ⟨wo,hwo⟩:∃wo,wo = wr:=⟨_,rfl⟩;subst hwo;go_wp2_with fail
     refine aF _ U' U' (aj _) ?_
     repeat ((first | refine aG J' ?_ | refine aH _ J' CP ?_);simp only [Act.put,pz])
     refine aN ?_;intro yW gv;replace gv:=gv.out;have ey:Below wo.heap.size wo (wo.alloc (.cells #[.string x.af[k].key,.int .i64 x.af[k].op,.slice DT x.af[k].values.length DU] 89)):=ak (aj _) _;have PI:yW.cell? ⟨wo.heap.size,2,none⟩ = some (.slice DT x.af[k].values.length DU):=(by rw [(ay gv).1 _ _ S',cell_of_row _ _ _ _ _ _ (heap_alloc_new wo _)];rfl);have FR:Below wo.heap.size wo yW:=ah ey gv;have FU:=r' FR iL dd;have FV:=r' FR pC dd;have Ra:S0++(aL x.af[k].key++jD x.af[k].op++jD x.af[k].values.length) = S0++MI x.af[k] 0:=rfl;have Rb:S0++aL x.af[k].key++jD x.af[k].op++jD x.af[k].values.length = S0++MI x.af[k] 0:=(by rw [X6];unfold MJ;simp only [ByteArray.append_assoc]);have HAS:=I Ra;have F0:=I Rb;clear Ra Rb;go_wp2_with fail
     go_loopw [3,62] (λs i wi=>∃j:Nat,j<=x.af[k].values.length/\i = .int .i64 j/\s = .string (S0++MI x.af[k] j)/\wi.cell? ⟨wo.heap.size,2,none⟩ = some (.slice DT x.af[k].values.length DU)/\wi.cell? ⟨w.heap.size,5,none⟩ = some (.slice (some ⟨b,o,none⟩) x.af.length nT)/\wi.cell? ⟨w.heap.size,6,none⟩ = some (.slice fA x.ae.length fB)/\Below wo.heap.size wo wi) (λ_ i _=>x.af[k].values.length - (intOf i).toNat)
     case atStart=>exact ⟨0,Nat.zero_le _,rfl,by first | rw [HAS.out] | rw [F0.out],PI,FU,FV,FR⟩
     case round =>
      obtain ⟨j,hj,rfl,rfl,hvb,akY,aoz,hbi⟩:=hrel;have ET:wo.heap.size < wr.heap.size:=World.block_lt_of_cell? wr _ hvb;have yZ:w.heap.size < wr.heap.size:=World.block_lt_of_cell? wr _ akY;have oo:=HVS.out j hj;have hjj:j * 1048586<=1048576 * 1048586:=Nat.mul_le_mul_right _ J;by_cases gp:j < x.af[k].values.length
      ·obtain ⟨b2,o2,ck2,Fk2,rfl,ayO,uO,fb,ju,hc2'⟩:=(Sl.ext (w':=wr) (A:=DT) (c:=DU) abp hbi).get gp;obtain ⟨aq,abT,hsz2⟩:=fb;subst aq abT;have p0:wr.cell? ⟨b2,o2+j,none⟩ = some (.string x.af[k].values[j]):=(by have:=hc2' 0 _ rfl;rwa [show o2+(j * bd.size ByteArray+0) = o2+j from by show o2+(j * 1+0) = _;omega] at this);clear hc2';have te:=HS3.out x.af[k].values[j] (List.getElem_mem ..);have dt:=iJ x.af[k].values[j] J;have tj:=I (X7 gp);generalize hV:MI x.af[k] j = V0 at tj oo |-;have aaq:((S0++V0).size:Int) = S0.size+V0.size:=(by rw [ByteArray.size_append];omega);go_wp2_with fail
       first
        | (refine aF _ U' U' (aj _) ?_
           repeat ((first | refine aG J' ?_ | refine aH _ J' CP ?_);simp only [Act.put,pz])
           refine aN ?_;intro F6 gf;replace gf:=gf.out;go_wp2
           exact ⟨⟨j+1,J,N',by rw [tj.out];simp only [ByteArray.append_assoc],((ay gf).1 _ _ ET).trans hvb,((ay gf).1 _ _ yZ).trans akY,((ay gf).1 _ _ yZ).trans aoz,ah hbi gf⟩,by simp [intOf];omega⟩)
        | (refine (zV _ _ J).mono ?_
           rintro e F6 ⟨rfl,gf⟩;obtain ⟨ej,hf4⟩:=ay gf;go_wp2
           exact ⟨⟨j+1,J,N',by rw [tj.out];simp only [ByteArray.append_assoc],((ay gf).1 _ _ ET).trans hvb,((ay gf).1 _ _ yZ).trans akY,((ay gf).1 _ _ yZ).trans aoz,ah hbi gf⟩,by simp [intOf];omega⟩)
      ·exact MW
    ·have bs:k = x.af.length:=J;subst bs;have PE:=Gf x qh.out Q6.out x.af.length (Nat.le_refl _);have lU:x.af.length * 1099523200000<=1048576 * 1099523200000:=Nat.mul_le_mul_right _ J;have hml:(TQ x).size<=(Bh x x.af.length).size+10:=(by unfold TQ;rw [ByteArray.size_append];omega);have HM:=I (show TQ x = Bh x x.af.length++jD x.ae.length from rfl);generalize hS:Bh x x.af.length = S0 at HM PE hml |-;obtain ⟨wo,hwo⟩:∃wo,wo = wr:=⟨_,rfl⟩;subst hwo;go_wp2_with fail
     refine (wE _ _ Q4).mono ?_;rintro e wn5 ⟨rfl,YW⟩;have Ga:=r' YW iL dd;have Gb:=r' YW pC dd;have Dc:=ah ax YW;go_wp2_with fail
     go_loopw [3,81] (λs i wr=>∃k:Nat,k<=x.ae.length/\i = .int .i64 k/\s = .string (Ld x k)/\wr.cell? ⟨w.heap.size,5,none⟩ = some (.slice oh x.af.length nT)/\wr.cell? ⟨w.heap.size,6,none⟩ = some (.slice fA x.ae.length fB)/\Below w.heap.size w wr) (λ_ i _=>x.ae.length - (intOf i).toNat)
     case atStart=>exact ⟨0,Nat.zero_le _,rfl,by rw [<- HM.out];rfl,Ga,Gb,Dc⟩
     case round =>
      obtain ⟨k,hk,rfl,rfl,iL,pC,ax⟩:=hrel;have dd:w.heap.size < wr.heap.size:=World.block_lt_of_cell? wr _ iL;by_cases am:k < x.ae.length
      ·obtain ⟨b,o,ck,Fk,rfl,o9,hbs,hr,bm,hc⟩:=(Sl.ext (w':=wr) (A:=fA) (c:=fB) eG ax).get am;obtain ⟨aq,su,adC,abS,KZ⟩:=jv hr;subst aq;obtain ⟨q0,q1,q2,q3⟩:=sJ 4 hc;clear hc;obtain ⟨cF,cC⟩:=Ux.out x.ae[k] (List.getElem_mem ..);have Ab:=iJ x.ae[k].key J;have oz:=iJ x.ae[k].value J;have x5:=bM x.ae[k].effect KZ;have hJ:=bM 0 ⟨by decide,by decide⟩;have te:=bM 1 ⟨by decide,by decide⟩;have dr:=PO x Ux.out FM.out k hk;have lU:k * 2097192<=1048576 * 2097192:=Nat.mul_le_mul_right _ J;have Jf:=I (VW am);generalize hT:Ld x k = T0 at Jf dr |-;cases hE:x.ae[k].equal
       all_goals
        rw [hE] at q1;have y8:UE x.ae[k] = aL x.ae[k].key++jD (rY x.ae[k].equal)++aL x.ae[k].value++jD x.ae[k].effect:=rfl;rw [hE] at y8;simp only [rY,if_true,Bool.false_eq_true,if_false] at y8;have HTE:=I y8;clear y8;go_wp2_with fail
        refine aF _ U' U' (aj _) ?_
        repeat ((first | refine aG J' ?_ | refine aH _ J' CP ?_);simp only [Act.put,pz])
        refine aN ?_;intro wn6 ub;replace ub:=ub.out;go_wp2;exact ⟨⟨k+1,J,N',by rw [Jf.out,HTE.out] <;> simp only [ByteArray.append_assoc],(((ay ub).1 _ _ (by simp;omega)).trans ((World.cell?_of_block (heap_alloc_old wr _ dd)).trans iL)),(((ay ub).1 _ _ (by simp;omega)).trans ((World.cell?_of_block (heap_alloc_old wr _ dd)).trans pC)),ah (ak ax _) ub⟩,by simp [intOf];omega⟩
      ·have bs:k = x.ae.length:=J;exact xv
theorem ZB (x:nI) (cs:List Value) (F:List Nat) (w:World) (h:rd w x cs F) (hw:(x.wt:Int)<=1048576) :
 Calls Tryz.prog 83 #[.agg cs.toArray] w λe w'=>e = .returned (.string (Bg x))/\Below w.heap.size w w':=by
 have fv:x.wt = x.name.size+kL ao.wt x.labels+kL aE.wt x.af+kL bH.wt x.ae:=rfl;obtain ⟨dq,di⟩:=sW (xs:=x.labels) J;obtain ⟨mW,VU⟩:=Aa (xs:=x.af) J;obtain ⟨fu,dr⟩:=FQ (xs:=x.ae) J;have pg:(x.name.size:Int)<=1048576:=by omega
 have Zb:=I di;have qh:=I VU;have Ux:=I dr;clear di dr VU;have hr:=h;obtain ⟨gu,gy,jw,oh,nT,wG,fA,fB,jY,aq,hF,hname,dO,vg,b8,BJ,mX,eG⟩:=dL hr;subst aq;clear hr hF;cases hR:GU x with
 | false =>
   have bb:Bg x = ⟨#[]⟩:=(by unfold Bg;rw [hR];rfl);have HF:=I bb;have HR:=I hR;clear bb hR;go_enter Tryz.func83,Tryz.ntmps83;go_wp2_with fail
   refine (yT x _ _ _ (aJ h bc) hw).mono ?_;exact od
 | true =>
   have bb:Bg x = Ld x x.ae.length:=(by unfold Bg;rw [hR];rfl);have HF:=I bb;have HR:=I hR;clear bb hR;go_enter Tryz.func83,Tryz.ntmps83;go_wp2_with fail
   refine (yT x _ _ _ (aJ h bc) hw).mono ?_;rw [HR.out];rintro e w2 ⟨rfl,ap⟩;obtain ⟨bX,cE⟩:=ay ap;have cr:w.heap.size < w2.heap.size:=(sq ap.size);have lz:=iJ x.name J;have me:=IC x.labels dq Zb.out;have FH:=bM x.aw vg;have FJ:=bM x.mem b8;have FK:=bM x.av BJ;have ua:aR (x.af.length:Int):=(by unfold aR;omega);have Q4:aR (x.ae.length:Int):=(by unfold aR;omega);have FL:=bM x.af.length ua;have hq7:=bM x.ae.length Q4;have bj:w2.cell? ⟨w.heap.size,5,none⟩ = some (.slice oh x.af.length nT):=by exact pP
   have dx:w2.cell? ⟨w.heap.size,6,none⟩ = some (.slice fA x.ae.length fB):=by exact pP
   have eu:Below w.heap.size w w2:=bc;have Q6:=I mX.ag4;have FM:=I eG.akX;have Q2:(RF x).size<=2199046980000:=by unfold RF;simp only [ByteArray.size_append];omega
   go_wp2_with fail
   refine aF w2 U' U' (aj _) ?_
   repeat ((first | refine aG J' ?_ | refine aH _ J' LR ?_);simp only [Act.put,pz])
   refine aN ?_;intro wn hn;replace hn:=hn.out;have FN:=r' hn bj cr;have FO:=r' hn dx cr;go_wp2_with fail
   go_loopw [3,4] (λs i wr=>∃k:Nat,k<=x.af.length/\i = .int .i64 k/\s = .string (Bh x k)/\wr.cell? ⟨w.heap.size,5,none⟩ = some (.slice oh x.af.length nT)/\wr.cell? ⟨w.heap.size,6,none⟩ = some (.slice fA x.ae.length fB)/\Below w.heap.size w wr) (λ_ i _=>x.af.length - (intOf i).toNat)
   case atStart=>exact ⟨0,Nat.zero_le _,rfl,rfl,FN,FO,ah eu hn⟩
   case round =>
    obtain ⟨k,hk,rfl,rfl,iL,pC,ax⟩:=hrel;have dd:w.heap.size < wr.heap.size:=World.block_lt_of_cell? wr _ iL;by_cases am:k < x.af.length
    ·obtain ⟨b,o,ck,Fk,rfl,o9,hbs,hr,bm,hc⟩:=(Sl.ext (w':=wr) (A:=oh) (c:=nT) mX ax).get am;obtain ⟨DT,DU,alQ,aq,su,adC,hop3,abp⟩:=og hr;subst aq;obtain ⟨q0,q1,q2⟩:=iX 3 hc;clear hc;obtain ⟨cF,cC,hs3⟩:=qh.out x.af[k] (List.getElem_mem ..);have Ab:=iJ x.af[k].key J;have oz:=bM x.af[k].op hop3;have FP:aR (x.af[k].values.length:Int):=(by unfold aR;omega);have x5:=bM x.af[k].values.length FP;have PE:=Gf x qh.out Q6.out k hk;have lU:k * 1099523200000<=1048576 * 1099523200000:=Nat.mul_le_mul_right _ J;have Jf:=I (TP am);have HVS:=I (RG cF hop3 cC hs3);have HS3:=I hs3;clear hs3;generalize hS:Bh x k = S0 at Jf PE |-;obtain ⟨wo,hwo⟩:∃wo,wo = wr:=⟨_,rfl⟩;subst hwo;go_wp2_with fail
     refine aF _ U' U' (aj _) ?_
     repeat ((first | refine aG J' ?_ | refine aH _ J' L0 ?_);simp only [Act.put,pz])
     refine aN ?_;intro yW gv;replace gv:=gv.out;have ey:Below wo.heap.size wo (wo.alloc (.cells #[.string x.af[k].key,.int .i64 x.af[k].op,.slice DT x.af[k].values.length DU] 89)):=ak (aj _) _;have PI:yW.cell? ⟨wo.heap.size,2,none⟩ = some (.slice DT x.af[k].values.length DU):=(by rw [(ay gv).1 _ _ S',cell_of_row _ _ _ _ _ _ (heap_alloc_new wo _)];rfl);have FR:Below wo.heap.size wo yW:=ah ey gv;have FU:=r' FR iL dd;have FV:=r' FR pC dd;have Ra:S0++(aL x.af[k].key++jD x.af[k].op++jD x.af[k].values.length) = S0++MI x.af[k] 0:=rfl;have Rb:S0++aL x.af[k].key++jD x.af[k].op++jD x.af[k].values.length = S0++MI x.af[k] 0:=(by rw [X6];unfold MJ;simp only [ByteArray.append_assoc]);have HAS:=I Ra;have F0:=I Rb;clear Ra Rb;go_wp2_with fail
     go_loopw [3,6] (λs i wi=>∃j:Nat,j<=x.af[k].values.length/\i = .int .i64 j/\s = .string (S0++MI x.af[k] j)/\wi.cell? ⟨wo.heap.size,2,none⟩ = some (.slice DT x.af[k].values.length DU)/\wi.cell? ⟨w.heap.size,5,none⟩ = some (.slice (some ⟨b,o,none⟩) x.af.length nT)/\wi.cell? ⟨w.heap.size,6,none⟩ = some (.slice fA x.ae.length fB)/\Below wo.heap.size wo wi) (λ_ i _=>x.af[k].values.length - (intOf i).toNat)
     case atStart=>exact ⟨0,Nat.zero_le _,rfl,by first | rw [HAS.out] | rw [F0.out],PI,FU,FV,FR⟩
     case round =>
      obtain ⟨j,hj,rfl,rfl,hvb,akY,aoz,hbi⟩:=hrel;have ET:wo.heap.size < wr.heap.size:=World.block_lt_of_cell? wr _ hvb;have yZ:w.heap.size < wr.heap.size:=World.block_lt_of_cell? wr _ akY;have oo:=HVS.out j hj;have hjj:j * 1048586<=1048576 * 1048586:=Nat.mul_le_mul_right _ J;by_cases gp:j < x.af[k].values.length
      ·obtain ⟨b2,o2,ck2,Fk2,rfl,ayO,uO,fb,ju,hc2'⟩:=(Sl.ext (w':=wr) (A:=DT) (c:=DU) abp hbi).get gp;obtain ⟨aq,abT,hsz2⟩:=fb;subst aq abT;have p0:wr.cell? ⟨b2,o2+j,none⟩ = some (.string x.af[k].values[j]):=(by have:=hc2' 0 _ rfl;rwa [show o2+(j * bd.size ByteArray+0) = o2+j from by show o2+(j * 1+0) = _;omega] at this);clear hc2';have te:=HS3.out x.af[k].values[j] (List.getElem_mem ..);have dt:=iJ x.af[k].values[j] J;have tj:=I (X7 gp);generalize hV:MI x.af[k] j = V0 at tj oo |-;have aaq:((S0++V0).size:Int) = S0.size+V0.size:=(by rw [ByteArray.size_append];omega);go_wp2_with fail
       first
        | (refine aF _ U' U' (aj _) ?_
           repeat ((first | refine aG J' ?_ | refine aH _ J' L0 ?_);simp only [Act.put,pz])
           refine aN ?_;intro F6 gf;replace gf:=gf.out;go_wp2
           exact ⟨⟨j+1,J,N',by rw [tj.out];simp only [ByteArray.append_assoc],((ay gf).1 _ _ ET).trans hvb,((ay gf).1 _ _ yZ).trans akY,((ay gf).1 _ _ yZ).trans aoz,ah hbi gf⟩,by simp [intOf];omega⟩)
        | (refine (zW _ _ J).mono ?_
           rintro e F6 ⟨rfl,gf⟩;obtain ⟨ej,hf4⟩:=ay gf;go_wp2
           exact ⟨⟨j+1,J,N',by rw [tj.out];simp only [ByteArray.append_assoc],((ay gf).1 _ _ ET).trans hvb,((ay gf).1 _ _ yZ).trans akY,((ay gf).1 _ _ yZ).trans aoz,ah hbi gf⟩,by simp [intOf];omega⟩)
      ·exact MW
    ·have bs:k = x.af.length:=J;subst bs;have PE:=Gf x qh.out Q6.out x.af.length (Nat.le_refl _);have lU:x.af.length * 1099523200000<=1048576 * 1099523200000:=Nat.mul_le_mul_right _ J;have hml:(TQ x).size<=(Bh x x.af.length).size+10:=(by unfold TQ;rw [ByteArray.size_append];omega);have HM:=I (show TQ x = Bh x x.af.length++jD x.ae.length from rfl);generalize hS:Bh x x.af.length = S0 at HM PE hml |-;obtain ⟨wo,hwo⟩:∃wo,wo = wr:=⟨_,rfl⟩;subst hwo;go_wp2_with fail
     refine (uP _ _ Q4).mono ?_;rintro e wn5 ⟨rfl,YW⟩;have Ga:=r' YW iL dd;have Gb:=r' YW pC dd;have Dc:=ah ax YW;go_wp2_with fail
     go_loopw [3,7] (λs i wr=>∃k:Nat,k<=x.ae.length/\i = .int .i64 k/\s = .string (Ld x k)/\wr.cell? ⟨w.heap.size,5,none⟩ = some (.slice oh x.af.length nT)/\wr.cell? ⟨w.heap.size,6,none⟩ = some (.slice fA x.ae.length fB)/\Below w.heap.size w wr) (λ_ i _=>x.ae.length - (intOf i).toNat)
     case atStart=>exact ⟨0,Nat.zero_le _,rfl,by rw [<- HM.out];rfl,Ga,Gb,Dc⟩
     case round =>
      obtain ⟨k,hk,rfl,rfl,iL,pC,ax⟩:=hrel;have dd:w.heap.size < wr.heap.size:=World.block_lt_of_cell? wr _ iL;by_cases am:k < x.ae.length
      ·obtain ⟨b,o,ck,Fk,rfl,o9,hbs,hr,bm,hc⟩:=(Sl.ext (w':=wr) (A:=fA) (c:=fB) eG ax).get am;obtain ⟨aq,su,adC,abS,KZ⟩:=jv hr;subst aq;obtain ⟨q0,q1,q2,q3⟩:=sJ 4 hc;clear hc;obtain ⟨cF,cC⟩:=Ux.out x.ae[k] (List.getElem_mem ..);have Ab:=iJ x.ae[k].key J;have oz:=iJ x.ae[k].value J;have x5:=bM x.ae[k].effect KZ;have hJ:=bM 0 ⟨by decide,by decide⟩;have te:=bM 1 ⟨by decide,by decide⟩;have dr:=PO x Ux.out FM.out k hk;have lU:k * 2097192<=1048576 * 2097192:=Nat.mul_le_mul_right _ J;have Jf:=I (VW am);generalize hT:Ld x k = T0 at Jf dr |-;cases hE:x.ae[k].equal
       all_goals
        rw [hE] at q1;have y8:UE x.ae[k] = aL x.ae[k].key++jD (rY x.ae[k].equal)++aL x.ae[k].value++jD x.ae[k].effect:=rfl;rw [hE] at y8;simp only [rY,if_true,Bool.false_eq_true,if_false] at y8;have HTE:=I y8;clear y8;go_wp2_with fail
        refine aF _ U' U' (aj _) ?_
        repeat (first
         | (apply aG
            case hw=>rfl
            simp only [Act.put,pz])
         | (apply aH
            case hw=>rfl
            case h =>
             intro wq hq;have cN:=(aB hq).1;have lJ:=(aB hq).2;go_simp
             first
              | exact ⟨hq,rfl⟩
              | exact ⟨aQ hq _,rfl⟩
              | (first | (refine (zW _ _ J).mono ?_;rintro e wz ⟨rfl,nV⟩;exact ⟨rfl,aI hq nV⟩) | (refine (uP _ _ pB).mono ?_;rintro e wz ⟨rfl,nV⟩;exact ⟨rfl,aI hq nV⟩) | (refine (amH _ _).mono ?_;rintro e wz ⟨rfl,rfl⟩;exact ⟨rfl,hq⟩))
              | (simp only [↓IntWalk.iteOmega];exact ⟨hq,rfl⟩)
            simp only [Act.put,pz]))
        refine aN ?_;intro wn6 ub;replace ub:=ub.out;go_wp2;exact ⟨⟨k+1,J,N',by rw [Jf.out,HTE.out] <;> simp only [ByteArray.append_assoc],(((ay ub).1 _ _ (by simp;omega)).trans ((World.cell?_of_block (heap_alloc_old wr _ dd)).trans iL)),(((ay ub).1 _ _ (by simp;omega)).trans ((World.cell?_of_block (heap_alloc_old wr _ dd)).trans pC)),ah (ak ax _) ub⟩,by simp [intOf];omega⟩
      ·have bs:k = x.ae.length:=J;exact xv
theorem amJ (s:ByteArray) (b:Nat) (a:Int) (w:World) (h:zk w b s a) (hs:(s.size:Int)<=1048576) :
 Calls Tryz.prog 33 #[.pointer (some ⟨b,0,none⟩)] w λe w'=>∃ds F,e = .returned (.agg ds.toArray)/\ai w' w.heap.size (Ad s a).1 ds F/\zk w' b s (Ad s a).2/\nN [b] w w':=by
 have am:=h.lt;have oT:=vI s 4 (fG s (fG s (fG s (iF s (dP s a).2).2).2).2).2 (by decide);have HH:=I (show Ad s a = ((xY s a).1,if Aj (xY s a).1 = true then (xY s a).2 else -1) from rfl);have mb:=I (show xY s a = (⟨(dP s a).1,(iF s (dP s a).2).1,(fG s (iF s (dP s a).2).2).1,(fG s (fG s (iF s (dP s a).2).2).2).1,(fG s (fG s (fG s (iF s (dP s a).2).2).2).2).1,(qX (Gs s) (jC s 4 (fG s (fG s (fG s (iF s (dP s a).2).2).2).2).2).1.toNat [] (jC s 4 (fG s (fG s (fG s (iF s (dP s a).2).2).2).2).2).2).1⟩,(qX (Gs s) (jC s 4 (fG s (fG s (fG s (iF s (dP s a).2).2).2).2).2).1.toNat [] (jC s 4 (fG s (fG s (fG s (iF s (dP s a).2).2).2).2).2).2).2) from rfl);have HT:=I (λwq hq=>CW s b a wq hq hs);have HL:=I (λwq hq=>aaT s b (dP s a).2 wq hq hs);have HC:=I (λwq hq=>FT s b (iF s (dP s a).2).2 wq hq hs);have HM:=I (λwq hq=>FT s b (fG s (iF s (dP s a).2).2).2 wq hq hs);have HO:=I (λwq hq=>FT s b (fG s (fG s (iF s (dP s a).2).2).2).2 wq hq hs);have HN:=I (λwq hq=>cI s b (fG s (fG s (fG s (iF s (dP s a).2).2).2).2).2 4 wq hq hs (by decide));have dr:=qR s a hs;have qg:=Kw s (dP s a).2;have cP:=I (NM s (dP s a).2 hs);have ee:=yt s (iF s (dP s a).2).2 hs;have Mb:=yt s (fG s (iF s (dP s a).2).2).2 hs;have Me:=yt s (fG s (fG s (iF s (dP s a).2).2).2).2 hs;have H:=I h;clear h;generalize jC s 4 (fG s (fG s (fG s (iF s (dP s a).2).2).2).2).2 = q at *;generalize fG s (fG s (fG s (iF s (dP s a).2).2).2).2 = o at *;generalize fG s (fG s (iF s (dP s a).2).2).2 = m at *;generalize fG s (iF s (dP s a).2).2 = c at *;generalize iF s (dP s a).2 = L at *;generalize dP s a = t1 at *;generalize hR:qX (Gs s) q.1.toNat [] q.2 = R at mb;generalize xY s a = HW at HH mb;obtain ⟨N,hN⟩:∃N:Nat,q.1 = N:=⟨q.1.toNat,J⟩;rw [hN,Int.toNat_natCast] at hR;have nz:=I hR;have GG:N<=4:=by omega
 have MO:=I hN;clear hN oT hR;go_enter Tryz.func33,Tryz.ntmps33;go_wp2_with fail
 refine (HT.out _ (H.out.ext (ak (aj _) _))).mono ?_;rintro e w1 ⟨rfl,fY,hu1⟩;have cG:w.heap.size < w1.heap.size:=by have:=hu1.size;simp at this;omega
 have uk:=(oG.new w [.string ⟨#[]⟩,.slice none 0 0,.int .i64 0,.int .i64 0,.int .i64 0,.slice none 0 0] 38).bE hu1 J;have GH:nN [b] w w1:=((nN.refl _ _).alloc _).trans hu1
 have S1:St [.string ⟨#[]⟩,.slice none 0 0,.int .i64 0,.int .i64 0,.int .i64 0,.slice none 0 0] w (w1.alloc (.cells #[.string t1.1,.slice none 0 0,.int .i64 0,.int .i64 0,.int .i64 0,.slice none 0 0] 38)) b w1.heap.size s t1.2 [.string t1.1,.slice none 0 0,.int .i64 0,.int .i64 0,.int .i64 0,.slice none 0 0] :=
  ⟨fY.ext (ak (aj _) _),GH.alloc _,oG.new w1 [.string t1.1,.slice none 0 0,.int .i64 0,.int .i64 0,.int .i64 0,.slice none 0 0] 38,uk.ext (ak (aj _) _),am,cG⟩
 clear fY hu1 uk;go_wp2_with fail
 refine (HL.out _ S1.bp).mono ?_;rintro e w2 ⟨A2,c2,G2,rfl,bA,dj,ca⟩;have S2:=S1.call dj ca;clear dj;replace bA:ai w2 (w1.heap.size+1) L.1 [.slice A2 L.1.length c2] G2:=bA.mono S';have uO:=bA.base;have k2:=S2.box.cell (i:=1) (u:=.slice none 0 0) rfl;have f2:=S2.box.fz 1;have l2:=S2.box.lt;have T2:=S2.put 1 (.slice A2 L.1.length c2);have O2:=bA.setCell (p:=⟨w1.heap.size,1,none⟩) kI (.slice A2 L.1.length c2);go_wp2_with fail
 refine (HC.out _ T2.bp).mono ?_;rintro e w3 ⟨rfl,TR,bJ⟩;have S3:=T2.call TR bJ;have O3:=bJ.own O2 (λy hy hb=>by have:=uO y hy;simp only [List.mem_singleton] at hb;omega);have k3:=S3.box.cell (i:=2) (u:=.int .i64 0) rfl;have f3:=S3.box.fz 2;have l3:=S3.box.lt;have T3:=S3.put 2 (.int .i64 c.1);have P3:=O3.setCell (p:=⟨w1.heap.size,2,none⟩) kI (.int .i64 c.1);go_wp2_with fail
 refine (HM.out _ T3.bp).mono ?_;rintro e w4 ⟨rfl,hI4,Td⟩;have S4:=T3.call hI4 Td;have O4:=Td.own P3 (λy hy hb=>by have:=uO y hy;simp only [List.mem_singleton] at hb;omega);have k4:=S4.box.cell (i:=3) (u:=.int .i64 0) rfl;have f4:=S4.box.fz 3;have l4:=S4.box.lt;have T4:=S4.put 3 (.int .i64 m.1);have P4:=O4.setCell (p:=⟨w1.heap.size,3,none⟩) kI (.int .i64 m.1);go_wp2_with fail
 refine (HO.out _ T4.bp).mono ?_;rintro e w5 ⟨rfl,lr,hu5⟩;have S5:=T4.call lr hu5;have O5:=hu5.own P4 (λy hy hb=>by have:=uO y hy;simp only [List.mem_singleton] at hb;omega);have k5:=S5.box.cell (i:=4) (u:=.int .i64 0) rfl;have f5:=S5.box.fz 4;have l5:=S5.box.lt;have T5:=S5.put 4 (.int .i64 o.1);have P5:=O5.setCell (p:=⟨w1.heap.size,4,none⟩) kI (.int .i64 o.1);go_wp2_with fail
 refine (HN.out _ T5.bp).mono ?_;rw [MO.out];rintro e w6 ⟨rfl,hI6,Ze⟩;have S6:=T5.call hI6 Ze;have O6:=Ze.own P5 (λy hy hb=>by have:=uO y hy;simp only [List.mem_singleton] at hb;omega);have Iw:=O6.lt;obtain ⟨B3,cT⟩:∃B3,w6.heap.size = B3:=⟨_,rfl⟩;have lh:w1.heap.size < B3:=by rw [<- cT];exact S6.box.lt
 rw [cT] at Iw;have ma:w6.ownsRow B3 84 3 (.slice none 0 0) 0 []:=⟨rfl,.inl ⟨rfl,rfl⟩⟩;have lE:=I cT;clear cT S1 S2 S3 S4 S5 T2 T3 T4 T5 bA O2 O3 P3 O4 P4 O5 P5 TR bJ hI4 Td lr hu5 hI6 Ze ca k2 f2 l2 k3 f3 l3 k4 f4 l4 k5 f5 l5;go_wp2_with fail
 go_loopw [4] (λn wr=>∃(k:Nat) (xs:List iU) (ds:List Value) (a':Int) (v:Value),n = .int .i64 k/\xs.length+k<=4/\Hid (qX (Gs s) k xs a' = R)/\Hid (∀l∈xs,(l.key.size:Int)<=1048576/\(l.value.size:Int)<=1048576)/\wr.ownsRow B3 84 3 v xs.length ds/\aY wr B3 xs ds []/\St [.string ⟨#[]⟩,.slice none 0 0,.int .i64 0,.int .i64 0,.int .i64 0,.slice none 0 0] w wr b w1.heap.size s a' [.string t1.1,.slice A2 L.1.length c2,.int .i64 c.1,.int .i64 m.1,.int .i64 o.1,v]/\ai wr (w1.heap.size+1) L.1 [.slice A2 L.1.length c2] G2/\B3<=wr.heap.size) (λn _=>(intOf n).toNat)
 case atStart=>exact ⟨N,[],[],q.2,.slice none 0 0,rfl,by simpa using GG,nz.out,(λl hl=>by cases hl),ma,aY.nil _ _,S6,O6,by have:=lE.out;omega⟩
 case round =>
  obtain ⟨k,xs,ds,a',v,rfl,hk4,QY,Eo,ar,bS,hS,hO,bu⟩:=hrel;cases k with
  | zero =>
    have bI:=QY.out;rw [qX] at bI;have M7:=I bI.symm;clear bI;obtain ⟨A6,c6,G6,rfl,hOT⟩:=ai.oJ ar bS (λ_ _ hb=>by cases hb);have Zm:ai wr (w1.heap.size+1) (⟨t1.1,L.1,c.1,m.1,o.1,xs⟩:az) [.string t1.1,.slice A2 L.1.length c2,.int .i64 c.1,.int .i64 m.1,.int .i64 o.1,.slice A6 xs.length c6] (G2++G6):=by exact Ma
    obtain ⟨k0,k1,k2,k3,k4,k5⟩:=cw hS.box;have kl:=hS.box.lt;have qz:=I Zm;have HS:=I hS;clear Zm hOT ar bS hS hO;have dq:(L.1.length:Int)<=1048576:=J;have fu:(xs.length:Int)<=1048576:=J;go_wp2_with fail
    refine (sQ (⟨t1.1,L.1,c.1,m.1,o.1,xs⟩:az) _ _ _ qz.out.rd dr dq cP.out fu Eo.out).mono ?_;rintro e w7 ⟨rfl,bx⟩;go_wp2_with fail
    refine (UG s b a' _ _ (HS.out.bp.ext bx)).mono ?_;rintro e w8 ⟨rfl,hI8,Ub⟩;have S8:=(HS.out.ext bx).call hI8 Ub;obtain ⟨j0,j1,j2,j3,j4,j5⟩:=cw S8.box;have jl:=S8.box.lt;obtain ⟨r0,r1,r2,r3,r4,r5⟩:=cw S8.rb;have rl:=S8.rb.lt;have rf:=S8.rb.fz;have sV:=Ub.own (qz.out.ext bx) (λy hy hb=>by have:=qz.out.base y hy;simp only [List.mem_singleton] at hb;omega);have HF:=I (show Ad s a = ((⟨t1.1,L.1,c.1,m.1,o.1,xs⟩:az),if Aj (⟨t1.1,L.1,c.1,m.1,o.1,xs⟩:az) = true then a' else -1) by rw [HH.out,mb.out,M7.out]);have Cg:=I S8;have SF:=I sV;clear k0 k1 k2 k3 k4 k5 S8 sV hI8 Ub;go_wp2;refine bodyPost_ret (v:=.agg #[.string t1.1,.slice A2 L.1.length c2,.int .i64 c.1,.int .i64 m.1,.int .i64 o.1,.slice A6 xs.length c6]) (by simp [results,Tryz.results33,go_sem, *]) rfl ?_;rw [HF.out];refine ⟨[.string t1.1,.slice A2 L.1.length c2,.int .i64 c.1,.int .i64 m.1,.int .i64 o.1,.slice A6 xs.length c6],G2++G6,rfl,?_,?_,?_⟩
    ·exact xe
    ·exact (by repeat (first | with_reducible exact Cg.out.bp | with_reducible refine zk.br ?_ J _ _))
    ·exact SZ
  | succ k =>
    have bI:=QY.out;rw [qX] at bI;have gC:=I bI;have sx:=qR s a' hs;have vb:=qR s (dP s a').2 hs;have hei:=yt s (dP s (dP s a').2).2 hs;have gH:=I (λwq hq=>CW s b a' wq hq hs);have gL:=I (λwq hq=>CW s b (dP s a').2 wq hq hs);have ja:=I (λwq hq=>FT s b (dP s (dP s a').2).2 wq hq hs);have HE:=I (show Gs s a' = (⟨(dP s a').1,(dP s (dP s a').2).1,(fG s (dP s (dP s a').2).2).1⟩,(fG s (dP s (dP s a').2).2).2) from rfl);clear bI;generalize fG s (dP s (dP s a').2).2 = e3 at *;generalize dP s (dP s a').2 = y2 at *;generalize dP s a' = y1 at *;have ce:b < B3:=J;have gF:xs.length<=4:=J;go_wp2_with fail
    refine (gH.out _ hS.bp).mono ?_;rintro e w7 ⟨rfl,hI7,WL⟩;have S7:=(hS.call hI7 WL).alloc (.cells ([.string y1.1,.string ⟨#[]⟩,.int .i64 0]:List Value).toArray 84);have r7:=rQ ar WL ce;have O7:=WL.own hO (λy hy hb=>by have:=uO y hy;simp only [List.mem_singleton] at hb;omega);have z7:wr.heap.size<=w7.heap.size:=WL.size;go_wp2_with fail
    refine (gL.out _ S7.bp).mono ?_;rintro e w8 ⟨rfl,hI8,Ub⟩;have X8:=(oG.new w7 [.string y1.1,.string ⟨#[]⟩,.int .i64 0] 84).bE Ub J;have S8:=(S7.call hI8 Ub).br (c:=w7.heap.size) J 1 (.string y2.1);have r8:=xw (c:=w7.heap.size) (i:=1) (u:=.string y2.1) (rQ (r7.alloc _) Ub ce) (λg hg=>by have:=(r7.lt g hg).2;omega);have O8:=(Ub.own (O7.alloc _) (λy hy hb=>by have:=uO y hy;simp only [List.mem_singleton] at hb;omega)).JA (p:=⟨w7.heap.size,1,none⟩) (λhg=>by have h99:w7.heap.size < B3:=Iw _ hg;omega) (.string y2.1);have k8:=X8.cell (i:=1) (u:=.string ⟨#[]⟩) rfl;have f8:=X8.fz 1;have l8:=X8.lt;have Y8:=X8.put 1 (.string y2.1);go_wp2_with fail
    refine (ja.out _ S8.bp).mono ?_;rintro e w9 ⟨rfl,hI9,Xb⟩;have X9:=Y8.bE Xb J;have S9:=(S8.call hI9 Xb).br (c:=w7.heap.size) J 2 (.int .i64 e3.1);have r9:=xw (c:=w7.heap.size) (i:=2) (u:=.int .i64 e3.1) (rQ r8 Xb ce) (λg hg=>by have:=(r7.lt g hg).2;omega);have O9:=(Xb.own O8 (λy hy hb=>by have:=uO y hy;simp only [List.mem_singleton] at hb;omega)).JA (p:=⟨w7.heap.size,2,none⟩) (λhg=>by have h99:w7.heap.size < B3:=Iw _ hg;omega) (.int .i64 e3.1);have k9:=X9.cell (i:=2) (u:=.int .i64 0) rfl;have f9:=X9.fz 2;have l9:=X9.lt;have Y9:=X9.put 2 (.int .i64 e3.1);have z9:B3<=(w9.setCell ⟨w7.heap.size,2,none⟩ (.int .i64 e3.1)).heap.size:=(by have:=Y9.lt;omega);have z9r:wr.heap.size<=(w9.setCell ⟨w7.heap.size,2,none⟩ (.int .i64 e3.1)).heap.size:=(by have:=Y9.lt;omega);have kb:=S9.box.cell (i:=5) (u:=v) rfl;have lb:=S9.box.lt;obtain ⟨x0,x1,x2⟩:=OS Y9;have Bm:=I S9;have mj:=I O9;clear hS hO ar S7 S8 S9 O7 O8 O9 X8 Y8 X9 Y9 hI7 WL hI8 Ub hI9 Xb r7 r8 k8 f8
    go_wp2_with (
     at_builtin
     go_must (refine lC ae5 J' _ _ J' _ _ _ _ _ r9 J' [.string y1.1,.string y2.1,.int .i64 e3.1] gn J' dv J J z9 ?_)
     intro v6 cB GJ ul zO;go_must (obtain ⟨A7,c7,hv6⟩:=rE GJ)
     go_must (subst hv6)
     go_must (have BZ:=Bm.out.grown ul (λq hq=>by have:=(r9.lt q hq).1;omega))
     go_must (have aax:=BZ.box.cell (i:=5) (u:=v) rfl)
     go_must (have aay:=BZ.box.fz 5)
     go_must (have aaz:=BZ.box.lt))
    have cU:=gC.out;rw [HE.out] at cU;replace cU:Hid (qX (Gs s) k (xs++[⟨y1.1,y2.1,e3.1⟩]) e3.2 = R):=cU;have O11:=(mj.out.keep (w':=cB) (λy hy=>ul.block y (mj.out.lt y hy) (by intro e;have:=(r9.lt y e.symm).1;have:=Iw y hy;omega)) ul.size).setCell (p:=⟨w1.heap.size,5,none⟩) kI (.slice A7 (xs.length+1) c7);have oe:=xw (c:=w1.heap.size) (i:=5) (u:=.slice A7 (xs.length+1) c7) GJ (λg hg=>by have:=(GJ.lt g hg).1;omega);refine ⟨⟨k,xs++[⟨y1.1,y2.1,e3.1⟩],_,e3.2,.slice A7 (xs.length+1) c7,N',by simp;omega,cU,?_,Tn,aY.tnt bS (by have:=ul.size;simp only [World.setCell,Array.size_modify] at *;omega) sx vb hei,BZ.put 5 (.slice A7 (xs.length+1) c7),O11,by have:=ul.size;simp only [World.setCell,Array.size_modify] at *;omega⟩,by simp [intOf]⟩;exact xi
def dB (b:ByteArray):List UInt8:=b.data.toList
theorem rj (a b:ByteArray):dB (a++b) = dB a++dB b:=by unfold dB;rw [ByteArray.data_append,Array.toList_append]
theorem Be (a:ByteArray):(dB a).length = a.size:=rfl
theorem aD2 {a b:ByteArray} (h:dB a = dB b):a = b:=by
 obtain ⟨a⟩:=a;obtain ⟨b⟩:=b;have:a = b:=Array.toList_inj.1 h;rw [this]
def kC (s:ByteArray) (a:Int) (t:List UInt8):Prop:=t <+: (dB s).drop a.toNat
theorem Vf {s:ByteArray} {a:Int} {t u:List UInt8} (ha:0<=a):kC s a (t++u)↔kC s a t/\kC s (a+t.length) u:=by
 unfold kC;have e:(dB s).drop (a+t.length).toNat = ((dB s).drop a.toNat).drop t.length:=by
  rw [List.drop_drop];congr 1;omega
 rw [e];generalize (dB s).drop a.toNat = M;constructor
 ·intro h;have h1:t <+: M:=(List.prefix_append t u).trans h;obtain ⟨M',rfl⟩:=h1;rw [List.drop_left];exact ⟨List.prefix_append ..,(List.prefix_append_right_inj t).1 h⟩
 ·rintro ⟨⟨M',rfl⟩,h⟩;rw [List.drop_left] at h;exact (List.prefix_append_right_inj t).2 h
theorem aF8 (s:ByteArray) (a:Int):kC s a []:=List.nil_prefix
def dT (s:ByteArray) {α:Type} (r:Int->α × Int) (W:α->List UInt8) (ok:α->Prop):Prop :=
 ∀a:Int,0<=a->∀v b,(r a = (v,b)/\0<=b)↔(ok v/\kC s a (W v)/\b = a+(W v).length)
section
variable {s:ByteArray} {α β:Type} {r:Int->α × Int} {W:α->List UInt8} {ok:α->Prop}
theorem dT.aD1 {q:α->Int->β × Int} {V:β->List UInt8} {Ri:β->Prop} (h1:dT s r W ok) (v:α) (h2:ok v->dT s (q v) V Ri) (hn:∀v a,a < 0->(q v a).2 < 0) {a:Int} (ha:0<=a) (u:β) (b:Int) :
 ((((r a).1,(q (r a).1 (r a).2).1),(q (r a).1 (r a).2).2) = ((v,u),b)/\0<=b)↔((ok v/\Ri u)/\kC s a (W v++V u)/\b = a+(W v++V u).length):=by
 rw [Vf ha,List.length_append];constructor
 ·rintro ⟨h,hb⟩;simp only [Prod.mk.injEq] at h;obtain ⟨⟨rfl,rfl⟩,rfl⟩:=h;have h0:0<=(r a).2:=by
   rcases Int.lt_or_le (r a).2 0 with am | iN
   ·exact absurd (hn (r a).1 _ am) J
   ·exact iN
  obtain ⟨o1,l1,e1⟩:=(h1 a ha (r a).1 (r a).2).1 ⟨rfl,h0⟩;obtain ⟨o2,l2,e2⟩:=(h2 o1 (r a).2 h0 _ _).1 ⟨rfl,hb⟩;rw [<- e1];exact ⟨⟨o1,o2⟩,⟨l1,l2⟩,J⟩
 ·rintro ⟨⟨o1,o2⟩,⟨l1,l2⟩,rfl⟩;obtain ⟨e1,g1⟩:=(h1 a ha v _).2 ⟨o1,l1,rfl⟩;obtain ⟨e2,g2⟩:=(h2 o1 _ g1 u _).2 ⟨o2,l2,rfl⟩;rw [e1];dsimp only;rw [e2];exact ⟨by rw [Int.natCast_add,Int.add_assoc],J⟩
theorem dT.pair {q:α->Int->β × Int} {V:α->β->List UInt8} {Ri:α->β->Prop} (h1:dT s r W ok) (h2:∀v,ok v->dT s (q v) (V v) (Ri v)) (hn:∀v a,a < 0->(q v a).2 < 0) :
 dT s (λa=>(((r a).1,(q (r a).1 (r a).2).1),(q (r a).1 (r a).2).2)) (λp=>W p.1++V p.1 p.2) (λp=>ok p.1/\Ri p.1 p.2) :=
 λa ha ⟨v,u⟩ b=>h1.aD1 v (h2 v) hn ha u b
theorem dT.map {f:α->β} (g:β->α) (Jn:β->Prop) (h:dT s r W ok) (h1:∀x,Jn x->ok (g x)/\f (g x) = x) (h2:∀v,ok v->Jn (f v)/\g (f v) = v):dT s (λa=>(f (r a).1,(r a).2)) (λx=>W (g x)) Jn:=by
 intro a ha x b;dsimp only;constructor
 ·rintro ⟨hx,hb⟩;simp only [Prod.mk.injEq] at hx;obtain ⟨rfl,rfl⟩:=hx;obtain ⟨o1,l1,e1⟩:=(h a ha (r a).1 (r a).2).1 ⟨rfl,hb⟩;obtain ⟨o2,e2⟩:=h2 _ o1;rw [e2];exact ⟨o2,l1,e1⟩
 ·rintro ⟨o1,l1,e1⟩;obtain ⟨o2,e2⟩:=h1 x o1;obtain ⟨h1,h2⟩:=(h a ha (g x) b).2 ⟨o2,l1,e1⟩;rw [h1];exact ⟨by rw [e2],h2⟩
theorem dT.to {W':α->List UInt8} {Jn:α->Prop} (h:dT s r W ok) (ho:∀v,ok v↔Jn v) (hw:∀v,ok v->W v = W' v):dT s r W' Jn:=by
 intro a ha v b;rw [h a ha v b];constructor
 ·rintro ⟨o,l,e⟩;rw [hw v o] at l e;exact ⟨(ho v).1 o,l,e⟩
 ·rintro ⟨o,l,e⟩;have o':=(ho v).2 o;rw [<- hw v o'] at l e;exact ⟨o',l,e⟩
theorem dT.check (h:dT s r W ok) (c:α->Bool):dT s (λa=>((r a).1,if c (r a).1 = true then (r a).2 else -1)) W (λv=>ok v/\c v = true):=by
 intro a ha v b;dsimp only;constructor
 ·rintro ⟨hx,hb⟩;simp only [Prod.mk.injEq] at hx;obtain ⟨rfl,e⟩:=hx;split at e
  ·rename_i hc;subst e;obtain ⟨o1,l1,e1⟩:=(h a ha (r a).1 (r a).2).1 ⟨rfl,hb⟩;exact ⟨⟨o1,hc⟩,l1,e1⟩
  ·omega
 ·rintro ⟨⟨o1,hc⟩,l1,e1⟩;obtain ⟨h1,h2⟩:=(h a ha v b).2 ⟨o1,l1,e1⟩;rw [h1];dsimp only;rw [if_pos hc];exact ⟨rfl,h2⟩
theorem dT.loop (h:dT s r W ok) (hn:∀a,a < 0->(r a).2 < 0):∀(k:Nat) (xs:List α) (a:Int),0<=a->∀ys b,(qX r k xs a = (ys,b)/\0<=b)↔∃vs,ys = xs++vs/\vs.length = k/\(∀v∈vs,ok v)/\kC s a (vs.flatMap W)/\b = a+(vs.flatMap W).length
 | 0,xs,a,ha,ys,b=>by
   rw [qX];constructor
   ·rintro ⟨hx,hb⟩;simp only [Prod.mk.injEq] at hx;obtain ⟨rfl,rfl⟩:=hx;exact ⟨[],S',rfl,(λv hv=>by cases hv),aF8 _ _,S'⟩
   ·rintro ⟨vs,rfl,hl,_,_,rfl⟩;obtain rfl:=List.eq_nil_of_length_eq_zero hl;simp;exact ha
 | k+1,xs,a,ha,ys,b=>by
   rw [qX];constructor
   ·rintro ⟨hx,hb⟩;have h0:0<=(r a).2:=by
     rcases Int.lt_or_le (r a).2 0 with am | iN
     ·have:=MP hn k (xs++[(r a).1]) _ am;rw [hx] at this;dsimp only at this;omega
     ·exact iN
    obtain ⟨o1,l1,e1⟩:=(h a ha (r a).1 (r a).2).1 ⟨rfl,h0⟩;obtain ⟨vs,rfl,hl,ho,hL,e2⟩:=(dT.loop h hn k _ _ h0 ys b).1 ⟨hx,hb⟩;refine ⟨(r a).1 :: vs,S',by simp [hl],?_,?_,?_⟩
    ·intro v hv;rcases List.mem_cons.1 hv with rfl | hv
     ·exact o1
     ·exact ho v hv
    ·rw [List.flatMap_cons,Vf ha,<- e1];exact ⟨l1,hL⟩
    ·rw [List.flatMap_cons,List.length_append];omega
   ·rintro ⟨vs,rfl,hl,ho,hL,rfl⟩;match vs,hl with
    | v :: vs,hl =>rw [List.flatMap_cons,Vf ha] at hL;obtain ⟨e1,g1⟩:=(h a ha v _).2 ⟨ho v (List.mem_cons_self ..),hL.1,rfl⟩;rw [e1];dsimp only;have h2:=(dT.loop h hn k (xs++[v]) _ g1 (xs++v :: vs) (a+((v :: vs).flatMap W).length)).2 ⟨vs,S',by simpa using hl,λu hu=>ho u (List.mem_cons_of_mem _ hu),hL.2,by rw [List.flatMap_cons,List.length_append];omega⟩;exact h2
end
theorem drop_at {s:ByteArray} {k:Nat} (h:k < s.size):(dB s).drop k = s[k] :: (dB s).drop (k+1):=List.drop_eq_getElem_cons h
theorem aBH (q:Nat):LG q≠[]:=by unfold LG;split <;> simp
theorem aDi (n:Nat) (h:n < 256):n.toUInt8.toNat = n:=by simp [Nat.toUInt8,UInt8.toNat_ofNat'];omega
theorem Rj {b:UInt8} {n:Nat} (h:n < 256):n.toUInt8 = b↔n = b.toNat:=by
 constructor
 ·rintro rfl;exact (aDi n h).symm
 ·rintro rfl;simp
theorem aCQ (s:ByteArray) (a:Nat):∀(j k n m p:Nat),j = 9 - k->k<=9->(Xc s a k n = some (m,p)↔∃q,q < 128 ^ j/\m = n+q * 2 ^ (7 * k)/\(k = 0∨0 < q)/\LG q <+: (dB s).drop (a+k)/\p = a+k+(LG q).length)
 | 0,k,n,m,p,hj,hk=>by
   rw [UH (λh=>by omega)];constructor
   ·intro h;cases h
   ·rintro ⟨q,hq,_,h,_⟩;omega
 | j+1,k,n,m,p,hj,hk=>by
   by_cases hs:a+k < s.size
   ·have dc:k < 9:=J;rw [drop_at hs];have Rk:s[a+k].toNat < 256:=s[a+k].toNat_lt;have Ab:128<=128 ^ (j+1):=(by rw [Nat.pow_succ];have:0 < 128 ^ j:=Nat.pow_pos (by decide);omega);by_cases hc:s[a+k].toNat < 128
    ·
     have small:∀q,LG q <+: s[a+k] :: (dB s).drop (a+k+1)↔q = s[a+k].toNat:=by
      intro q;by_cases hq:q < 128
      ·rw [xU hq,List.cons_prefix_cons,Rj J];exact ⟨λh=>h.1,λh=>⟨h,List.nil_prefix⟩⟩
      ·rw [D6 J,List.cons_prefix_cons,Rj J];constructor
       ·intro h;omega
       ·intro h;omega
     by_cases hz:s[a+k].toNat = 0/\0 < k
     ·rw [wX dc hs hz.1 hz.2];constructor
      ·intro h;cases h
      ·rintro ⟨q,_,_,h1,h2,_⟩;rw [small] at h2;omega
     ·rw [x9 dc hs hc hz];constructor
      ·intro h;cases h
       refine ⟨s[a+k].toNat,J,by rw [Nat.mod_eq_of_lt hc],J,(small _).2 rfl,?_⟩;rw [xU hc];rfl
      ·rintro ⟨q,_,rfl,_,h2,rfl⟩;rw [small] at h2;subst h2;rw [xU hc,Nat.mod_eq_of_lt hc];rfl
    ·rw [uT dc hs J,aCQ s a j (k+1) _ m p J J];have e7:2 ^ (7 * (k+1)) = 128 * 2 ^ (7 * k):=(by rw [Nat.mul_add,Nat.pow_add,Nat.mul_comm]);constructor
     ·rintro ⟨q,h1,rfl,h2,h3,rfl⟩;refine ⟨s[a+k].toNat % 128+128 * q,?_,?_,J,?_,?_⟩
      ·rw [Nat.pow_succ];omega
      ·rw [e7,Nat.add_mul,Nat.add_assoc];congr 2;rw [<- Nat.mul_assoc,Nat.mul_comm q 128]
      ·rw [D6 (n:=s[a+k].toNat % 128+128 * q) J,List.cons_prefix_cons,Rj J];refine ⟨J,?_⟩;rw [show (s[a+k].toNat % 128+128 * q) / 128 = q by omega];exact h3
      ·rw [D6 (n:=s[a+k].toNat % 128+128 * q) J,List.length_cons,show (s[a+k].toNat % 128+128 * q) / 128 = q by omega];omega
     ·rintro ⟨q,h1,rfl,h2,h3,rfl⟩;by_cases hq:q < 128
      ·rw [xU hq,List.cons_prefix_cons,Rj J] at h3;omega
      ·rw [D6 (n:=q) J,List.cons_prefix_cons,Rj J] at h3;refine ⟨q / 128,?_,?_,J,h3.2,?_⟩
       ·rw [Nat.pow_succ] at h1;omega
       ·have:q = s[a+k].toNat % 128+128 * (q / 128):=J;rw [e7,Nat.add_assoc];congr 1;rw [<- Nat.mul_assoc,Nat.mul_comm (q / 128) 128,<- Nat.add_mul,<- this]
       ·rw [D6 (n:=q) J,List.length_cons];omega
   ·rw [UH (λh=>hs h.2)];constructor
    ·intro h;cases h
    ·rintro ⟨q,_,_,_,h,_⟩;rw [List.drop_eq_nil_of_le (by show s.size<=_;omega)] at h;exact absurd (List.prefix_nil.1 h) (aBH q)
theorem Bf {n:Int} (h:0<=n):dB (jD n) = LG n.toNat:=by unfold jD;rw [if_neg J];rfl
def VT (n:Int):List UInt8:=dB (jD n)
def gl (n:Int):Prop:=0<=n/\n<=9223372036854775807
theorem nJ (s:ByteArray):dT s (fG s) VT gl:=by
 intro a ha v b;have hq:=aCQ s a.toNat 9 0 0;unfold fG Af;rw [if_neg J];have aau:(128:Nat) ^ 9 = 9223372036854775808:=by decide +kernel
 rw [aau] at hq;cases hr:Xc s a.toNat 0 0 with
 | none =>
   dsimp only;constructor
   ·rintro ⟨h,hb⟩;simp only [Prod.mk.injEq] at h;omega
   ·rintro ⟨⟨h0,h1⟩,hl,rfl⟩;have:=(hq v.toNat (a.toNat+0+(LG v.toNat).length) J J).2 ⟨v.toNat,J,S',.inl rfl,by rw [<- Bf h0];exact hl,rfl⟩;rw [hr] at this;cases this
 | some q =>
   obtain ⟨m,p⟩:=q;dsimp only;obtain ⟨q,h1,h2,_,h3,h4⟩:=(hq m p J J).1 hr;obtain rfl:m = q:=by simpa using h2
   constructor
   ·rintro ⟨h,hb⟩;simp only [Prod.mk.injEq] at h;obtain ⟨rfl,rfl⟩:=h;have e:=Bf (n:=(m:Int)) J;simp only [Int.toNat_natCast] at e;exact ⟨⟨J,J⟩,by show dB _ <+: _;rw [e];exact h3,by show _ = a+((dB _).length:Int);rw [e];omega⟩
   ·rintro ⟨⟨h0,h5⟩,hl,rfl⟩;have h6:=(hq v.toNat (a.toNat+0+(LG v.toNat).length) J J).2 ⟨v.toNat,J,S',.inl rfl,by rw [<- Bf h0];exact hl,rfl⟩;rw [hr] at h6;simp only [Option.some.injEq,Prod.mk.injEq] at h6;have e:((VT v).length:Int) = (LG v.toNat).length:=(by show ((dB _).length:Int) = _;rw [Bf h0]);rw [e];exact ⟨by rw [h6.1,h6.2];congr 1 <;> omega,J⟩
theorem axH (s:ByteArray) (most:Int):dT s (jC s most) VT (λn=>gl n/\n<=most):=by
 intro a ha v b;have h:=nJ s a ha;unfold jC;constructor
 ·rintro ⟨hx,hb⟩;split at hx
  ·rename_i hm;split at hx
   ·rename_i hn;simp only [Prod.mk.injEq] at hx;omega
   ·obtain ⟨o,l,e⟩:=(h v b).1 ⟨hx,hb⟩;rw [hx] at hm;exact ⟨⟨o,hm⟩,l,e⟩
  ·simp only [Prod.mk.injEq] at hx;omega
 ·rintro ⟨⟨o,hm⟩,l,e⟩;obtain ⟨h1,h2⟩:=(h v b).2 ⟨o,l,e⟩;rw [h1];dsimp only;rw [if_pos hm,if_neg J];exact ⟨rfl,h2⟩
def ST (t:ByteArray):List UInt8:=dB (aL t)
theorem aA6 {s t:ByteArray} {p n:Nat} (h:p+n<=s.size):s.extract p (p+n) = t↔t.size = n/\dB t <+: (dB s).drop p:=by
 have e:dB (s.extract p (p+n)) = ((dB s).drop p).take n:=by unfold dB;rw [ByteArray.data_extract,Array.toList_extract,List.extract_eq_take_drop];congr 1;omega
 constructor
 ·rintro rfl;refine ⟨by rw [ByteArray.size_extract];omega,?_⟩;rw [e];exact List.take_prefix ..
 ·rintro ⟨h1,h2⟩;refine aD2 ?_;rw [e];have h3:=List.prefix_iff_eq_take.1 h2;rw [Be,h1] at h3;exact h3.symm
theorem aF9 {s:ByteArray} {a:Int} {t:List UInt8} (ha:0<=a) (h:kC s a t) (ht:t≠[]):a+t.length<=s.size:=by
 have h1:=h.length_le;rw [List.length_drop,Be] at h1;have:0 < t.length:=List.length_pos_iff.2 ht;omega
theorem vD (s:ByteArray) (hs:(s.size:Int)<=1048576):dT s (dP s) ST (λ_=>True):=by
 intro a ha v b;have h:=nJ s a ha;have eS:∀t:ByteArray,ST t = VT t.size++dB t:=λt=>by show dB _ = _;unfold aL;rw [rj];rfl
 unfold dP rU;rw [if_neg J,eS,Vf ha,List.length_append];constructor
 ·rintro ⟨hx,hb⟩;split at hx
  ·simp only [Prod.mk.injEq] at hx;omega
  ·rename_i hc;simp only [Prod.mk.injEq] at hx;obtain ⟨hx,rfl⟩:=hx;obtain ⟨⟨o1,o2⟩,l,e⟩:=(h (fG s a).1 (fG s a).2).1 ⟨rfl,J⟩;generalize (fG s a).1 = n at *;generalize (fG s a).2 = p at *;rw [aA6 J] at hx;have hn:(v.size:Int) = n:=J;rw [hn,<- e];exact ⟨trivial,⟨l,hx.2⟩,by rw [Be];omega⟩
 ·rintro ⟨_,⟨l1,l2⟩,rfl⟩;have eJ:(v.size:Int)<=1048576:=by
   have h1:=l2.length_le;rw [List.length_drop,Be,Be] at h1;omega
  obtain ⟨e,h0⟩:=(h v.size (a+(VT v.size).length)).2 ⟨⟨J,J⟩,l1,rfl⟩;rw [e];dsimp only;have h1:=l2.length_le;rw [List.length_drop,Be,Be] at h1;have h2:a+((VT v.size).length:Int)<=s.size:=aF9 ha l1 (by rw [show VT v.size = _ from Bf J];exact aBH _);rw [if_neg J];refine ⟨?_,J⟩;simp only [Int.toNat_natCast,Prod.mk.injEq,Be];exact ⟨(aA6 J).2 ⟨rfl,l2⟩,J⟩
theorem dT.oR {s:ByteArray} {α:Type} {r:Int->α × Int} {W:α->List UInt8} {ok:α->Prop} (h:dT s r W ok) (hn:∀a,a < 0->(r a).2 < 0) (most:Int) (hm:most<=9223372036854775807) :
 dT s (xC r s most) (λvs=>VT vs.length++vs.flatMap W) (λvs=>(vs.length:Int)<=most/\∀v∈vs,ok v):=by
 have h2:∀n:Int,gl n/\n<=most->dT s (λa=>qX r n.toNat [] a) (λvs=>vs.flatMap W) (λvs=>vs.length = n.toNat/\∀v∈vs,ok v):=by
  intro n ow a ha ys b;have h3:=h.loop hn n.toNat [] a ha ys b;dsimp only;rw [h3];constructor
  ·rintro ⟨vs,rfl,h4,h5,h6,h7⟩;exact ⟨⟨h4,h5⟩,h6,h7⟩
  ·rintro ⟨⟨h4,h5⟩,h6,h7⟩;exact ⟨ys,rfl,h4,h5,h6,h7⟩
 have h4:=dT.map (f:=λp:Int × List α=>p.2) (λvs=>((vs.length:Int),vs)) (λvs=>(vs.length:Int)<=most/\∀v∈vs,ok v) ((axH s most).pair h2 (λv a ha=>MP hn _ _ _ ha)) (λvs hv=>by
  obtain ⟨h5,h6⟩:=hv
  exact ⟨⟨⟨⟨by dsimp only;omega,by dsimp only;omega⟩,h5⟩,S',h6⟩,rfl⟩) (λv hv=>by
  obtain ⟨n,vs⟩:=v;obtain ⟨⟨⟨h5,_⟩,h8⟩,h6,h7⟩:=hv;dsimp only at h5 h6 h7 h8 |-;rw [h6];refine ⟨⟨J,h7⟩,?_⟩;congr 1
  omega)
 exact h4
end Go.Proofs.YtjahcnjmjahbaaaGreat
