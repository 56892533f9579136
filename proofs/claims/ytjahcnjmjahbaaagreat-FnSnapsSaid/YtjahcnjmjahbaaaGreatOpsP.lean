/- DeletePod, of the program. No condition. -/
import Derived.Test.YtjahcnjmjahbaaaGreatCopyS
import Derived.Test.YtjahcnjmjahbaaaGreatRdPX
namespace Go.Proofs.YtjahcnjmjahbaaaGreat
open Go.ChangeShapes Go.WideShapes Go.ChangeAt Go.RowKit
set_option linter.unusedVariables false
set_option linter.unusedSimpArgs false
set_option maxHeartbeats 4000000
set_option maxRecDepth 100000
theorem am.join {α β:Type} [bd α] [bd β] {w:World} {B:Nat} {x:α} {y:β} {c1 c2:List Value} {F1 F2:List Nat} (h1:am w B x c1 F1) (h2:am w B y c2 F2) (hd:∀b∈F1,b∉F2):am w B (x,y) (c1++c2) (F1++F2):=by
 exact zm
theorem am.parts {w:World} {B:Nat} {x:aU} {Ah Ap:Option Addr} {nh ch np cp:Nat} {n p q f:Int} {G:List Nat} (h:am w B x [.slice Ah nh ch,.slice Ap np cp,.int .i64 n,.int .i64 p,.int .i64 q,.int .i64 f] G) :
 ∃Gh Gp,am w B x.Z [.slice Ah nh ch] Gh∧am w B x.O [.slice Ap np cp] Gp∧(∀y∈Gh,y∉Gp)∧(∀y∈Gh,y∈G)∧(∀y∈Gp,y∈G):=by
 obtain ⟨⟨c1,c2,F1,F2,e1,rfl,hh,d1,d2,G1,G2,e3,rfl,hp,g1,g2,H1,H2,e5,e6,⟨e7,e8,hn⟩,fW⟩,hnd,hb,fl⟩:=h;obtain ⟨A,c,rfl,_⟩:=jB hh;obtain ⟨A2,c2',rfl,_⟩:=jB hp;subst e7 e5 e3;simp only [List.cons_append,List.nil_append,List.cons.injEq] at e1;obtain ⟨ea,eb,_⟩:=e1;rw [List.nodup_append,List.nodup_append] at hnd;refine ⟨F1,G1,⟨by rw [ea];exact hh,hnd.1,fun y hy=>hb y (by simp [hy]),fun y hy=>fl y (by simp [hy])⟩,⟨by rw [eb];exact hp,hnd.2.1.1,fun y hy=>hb y (by simp [hy]),fun y hy=>fl y (by simp [hy])⟩,fun y hy lL=>hnd.2.2 y hy y (by simp [lL]) rfl,fun y hy=>by simp [hy],fun y hy=>by simp [hy]⟩
theorem am.whole {w:World} {B:Nat} {H:List az} {Q:List ai} {Ah Ap:Option Addr} {nh ch np cp:Nat} {n p q f:Int} {Gh Gp:List Nat} (h:am w B H [.slice Ah nh ch] Gh) (k:am w B Q [.slice Ap np cp] Gp) (hd:∀y∈Gh,y∉Gp) (hn:bi n) (hp:bi p) (hq:bi q) (hf:bi f) :
 am w B (⟨H,Q,n,⟨p,q,f⟩⟩:aU) [.slice Ah nh ch,.slice Ap np cp,.int .i64 n,.int .i64 p,.int .i64 q,.int .i64 f] (Gh++Gp):=by
 refine am.up (B':=B) (fun x:aU=>(x.Z,x.O,x.next,x.weights)) ?_ (Nat.le_refl _);have h5:am w B (⟨p,q,f⟩:rZ) ([.int .i64 p]++([.int .i64 q]++[.int .i64 f])) []:=by exact zA
 have h6:=am.cons (jL w n hn) h5;have h7:=am.join h (am.join k h6 (fun b _ hb=>by cases hb)) (fun b hb d9=>hd b hb (by simpa using d9));simpa using h7
def Ut (x:aU) (nm:ByteArray):aU × Int :=
 if iI x = true then (if pK (CG nm) x.O < 0 then (x,3) else (⟨x.Z,x.O.eraseIdx (pK (CG nm) x.O).toNat,x.next,x.weights⟩,0)) else (x,1)
def QW (nm:ByteArray) (p:ai):ai:=if p.on.toList == nm.toList then ⟨p.aS,⟨#[]⟩,p.seq⟩ else p
def VP (nm:ByteArray) (k:Nat) (xs:List ai):List ai:=(xs.take k).map (QW nm)++xs.drop k
theorem agW (nm:ByteArray) (k:Nat) (xs:List ai) (hk:k≤xs.length):(VP nm k xs).length = xs.length:=by unfold VP;rw [List.length_append,List.length_map,List.length_take,List.length_drop];omega
theorem ai0 (nm:ByteArray) (xs:List ai):VP nm 0 xs = xs:=by simp [VP]
theorem amE (nm:ByteArray) (xs:List ai):VP nm xs.length xs = xs.map (QW nm):=by simp [VP]
theorem agX {nm:ByteArray} {k:Nat} {xs:List ai} (hk:k < xs.length) (h:k < (VP nm k xs).length):(VP nm k xs)[k] = xs[k]:=by
 have h1:((xs.take k).map (QW nm)).length = k:=by rw [List.length_map,List.length_take];omega
 simp only [VP];rw [List.getElem_append_right J];simp [show min k xs.length = k from by omega]
theorem agY {nm:ByteArray} {k:Nat} {xs:List ai} (hk:k < xs.length):(VP nm k xs).set k (QW nm xs[k]) = VP nm (k+1) xs:=by
 have h1:((xs.take k).map (QW nm)).length = k:=by rw [List.length_map,List.length_take];omega
 unfold VP;rw [List.set_append_right _ _ J,h1,Nat.sub_self,← List.getElem_cons_drop hk,List.set_cons_zero,List.take_succ_eq_append_getElem hk,List.map_append];simp
theorem ai1 {nm:ByteArray} {k:Nat} {xs:List ai} (hk:k < xs.length) (h:QW nm xs[k] = xs[k]):VP nm (k+1) xs = VP nm k xs:=by
 rw [← agY hk,h];have h2:k < (VP nm k xs).length:=by rw [agW nm k xs J];exact hk
 rw [← agX (nm:=nm) hk h2,List.set_getElem_self]
theorem am.off {w:World} {B:Nat} {p:ai} {ck:List Value} {F:List Nat} (h:am w B p ck F):am w B (⟨p.aS,⟨#[]⟩,p.seq⟩:ai) (ck.set 7 (.string ⟨#[]⟩)) F:=by
 obtain ⟨⟨c1,c2,F1,F2,rfl,rfl,QS,c3,c4,F3,F4,rfl,rfl,⟨rfl,rfl,eO⟩,⟨rfl,rfl,Ue⟩⟩,hnd,hb,fl⟩:=h;have hl:c1.length = 7:=bd.len QS;have e:(c1++([Value.string p.on]++[Value.int .i64 p.seq])).set 7 (.string ⟨#[]⟩) = c1++([.string ⟨#[]⟩]++[.int .i64 p.seq]):=by rw [List.set_append_right _ _ J,hl];rfl
 rw [e];exact ⟨⟨c1,_,F1,_,rfl,rfl,QS,_,_,_,_,rfl,rfl,⟨rfl,rfl,(show (0:Nat)≤maxLen from Nat.zero_le _)⟩,⟨rfl,rfl,Ue⟩⟩,hnd,hb,fl⟩
theorem akU {α:Type} [bd α] {w:World} {B c i:Nat} {u:Value} {x:α} {cs:List Value} {F:List Nat} (h:am w B x cs F) (hF:∀y∈F,y≠c):am (w.setCell ⟨c,i,none⟩ u) B x cs F :=
 h.br (fun y hy=>Below.heap_setCell _ _ _ _ AM) fd
def Ko (x:aU) (nm:ByteArray):aU × Int :=
 if iI x = true then (if pK (iM nm) x.Z < 0 then (x,3) else (⟨x.Z.eraseIdx (pK (iM nm) x.Z).toNat,x.O.map (QW nm),x.next,x.weights⟩,0)) else (x,1)
def gT (x:aU) (u:rZ):aU × Int:=if iI x = true∧zL u.pack u.af u.an = true then (⟨x.Z,x.O,x.next,u⟩,0) else (x,1)
theorem am.ag1 {w:World} {B:Nat} {x:aU} {Ah Ap:Option Addr} {nh ch np cp:Nat} {n p q f:Int} {G:List Nat} (h:am w B x [.slice Ah nh ch,.slice Ap np cp,.int .i64 n,.int .i64 p,.int .i64 q,.int .i64 f] G) (u:rZ) (h1:bi u.pack) (h2:bi u.af) (h3:bi u.an) :
 am w B (⟨x.Z,x.O,x.next,u⟩:aU) [.slice Ah nh ch,.slice Ap np cp,.int .i64 n,.int .i64 u.pack,.int .i64 u.af,.int .i64 u.an] G:=by
 obtain ⟨⟨c1,c2,F1,F2,e1,e2,hh,d1,d2,G1,G2,e3,e4,hp,g1,g2,H1,H2,e5,e6,⟨e7,e8,hn⟩,fW⟩,hnd,hb,fl⟩:=h;obtain ⟨A,c,rfl,_⟩:=jB hh;obtain ⟨A2,c2',rfl,_⟩:=jB hp;subst e7 e5 e3;simp only [List.cons_append,List.nil_append,List.cons.injEq] at e1;obtain ⟨ea,eb,ec,_⟩:=e1;refine ⟨⟨_,[.slice Ap np cp,.int .i64 n,.int .i64 u.pack,.int .i64 u.af,.int .i64 u.an],F1,F2,(by rw [ea];rfl),e2,hh,_,[.int .i64 n,.int .i64 u.pack,.int .i64 u.af,.int .i64 u.an],G1,G2,(by rw [eb];rfl),e4,hp,_,[.int .i64 u.pack,.int .i64 u.af,.int .i64 u.an],H1,H2,(by rw [ec];rfl),e6,⟨rfl,e8,hn⟩,?_⟩,hnd,hb,fl⟩;obtain ⟨rfl,hF,_⟩:=mg fW;rw [hF];exact Zj w u h1 h2 h3
theorem aeu (x:aU) (cs:List Value) (F:List Nat) (u:rZ) (us:List Value) (Fu:List Nat) (w:World) (h:rd w x cs F) (h':rd w u us Fu) (hw:(x.wt:Int)≤1048576) :
 Calls Tryz.prog 112 #[.agg cs.toArray,.agg us.toArray] w fun e w'=>∃ds G,e = .returned (.tuple #[.agg ds.toArray,.int .i64 (gT x u).2])∧am w' w.heap.size (gT x u).1 ds G∧Below w.heap.size w w':=by
 have HW:=I hw;clear hw;have hr:=h;have cN:=h';obtain ⟨bG,bD,fQ,dn,bW,jg,aw,qp,bQ,dM,hnext,aV,aP,aW⟩:=aO hr;subst aw;obtain ⟨aw,hG0,Sr,Jm,Sv⟩:=mg cN;subst aw;clear qp hG0 hr cN;cases hc:iI x <;> cases fW:zL u.pack u.af u.an
 ·exact Gq
 ·exact Gq
 ·have HF:=I (show gT x u = (x,1) by unfold gT;rw [hc,fW];simp);have HC:=I hc;have Du:=I fW;clear hc fW;go_enter Tryz.func112,Tryz.ntmps112;go_wp2_with fail
  refine (BO x _ _ _ (aZ h cg) HW.out).mono ?_;rintro e w1 ⟨lu,G1,rfl,jX,bk⟩;have dt:=jX.rd;obtain ⟨dG,bV,xq,dS,dJ,Bz,aw,hG1,oO,tq,wI,iV,gI,iW⟩:=aO dt;subst aw;clear hG1 dt;obtain ⟨da,eW⟩:=ay bk;have VQ:w.heap.size < w1.heap.size:=sq bk.size;have l0:w.heap.size+1 < w1.heap.size:=sq bk.size;have Yc:w.heap.size+1+1 < w1.heap.size:=sq bk.size;have fo:=jX.lt;go_wp2_with fail
  refine (qM x _ _ _ (aZ h cg) HW.out).mono ?_;rw [HC.out];rintro e w2 ⟨rfl,av⟩;obtain ⟨ce,cK⟩:=ay av;have VR:w.heap.size < w2.heap.size:=sq av.size;have l6:w.heap.size+1 < w2.heap.size:=sq av.size;have Yd:w.heap.size+1+1 < w2.heap.size:=sq av.size;have VT:w1.heap.size < w2.heap.size:=sq av.size;go_wp2_with fail
  refine (pW u.pack u.af u.an _).mono ?_;rw [Du.out];rintro e w3 ⟨rfl,bj⟩;obtain ⟨cP,hf3⟩:=ay bj;have Mg:w.heap.size < w3.heap.size:=sq bj.size;have sa:w.heap.size+1 < w3.heap.size:=sq bj.size;have UZ:w.heap.size+1+1 < w3.heap.size:=sq bj.size;have Mh:w1.heap.size < w3.heap.size:=sq bj.size;have bN:am w3 (w.heap.size+1+1+1) x [.slice dG x.Z.length bV,.slice dS x.O.length dJ,.int .i64 x.next,.int .i64 x.weights.pack,.int .i64 x.weights.af,.int .i64 x.weights.an] G1:=(((jX.mono S').alloc _).ext av).ext bj;exact Gx
 ·have HF:=I (show gT x u = (⟨x.Z,x.O,x.next,u⟩,0) by unfold gT;rw [hc,fW];simp);have HC:=I hc;have Du:=I fW;clear hc fW;go_enter Tryz.func112,Tryz.ntmps112;go_wp2_with fail
  refine (BO x _ _ _ (aZ h cg) HW.out).mono ?_;rintro e w1 ⟨lu,G1,rfl,jX,bk⟩;have dt:=jX.rd;obtain ⟨dG,bV,xq,dS,dJ,Bz,aw,hG1,oO,tq,wI,iV,gI,iW⟩:=aO dt;subst aw;clear hG1 dt;obtain ⟨da,eW⟩:=ay bk;have VQ:w.heap.size < w1.heap.size:=sq bk.size;have l0:w.heap.size+1 < w1.heap.size:=sq bk.size;have Yc:w.heap.size+1+1 < w1.heap.size:=sq bk.size;have fo:=jX.lt;go_wp2_with fail
  refine (qM x _ _ _ (aZ h cg) HW.out).mono ?_;rw [HC.out];rintro e w2 ⟨rfl,av⟩;obtain ⟨ce,cK⟩:=ay av;have VR:w.heap.size < w2.heap.size:=sq av.size;have l6:w.heap.size+1 < w2.heap.size:=sq av.size;have Yd:w.heap.size+1+1 < w2.heap.size:=sq av.size;have VT:w1.heap.size < w2.heap.size:=sq av.size;go_wp2_with fail
  refine (pW u.pack u.af u.an _).mono ?_;rw [Du.out];rintro e w3 ⟨rfl,bj⟩;obtain ⟨cP,hf3⟩:=ay bj;have Mg:w.heap.size < w3.heap.size:=sq bj.size;have sa:w.heap.size+1 < w3.heap.size:=sq bj.size;have UZ:w.heap.size+1+1 < w3.heap.size:=sq bj.size;have Mh:w1.heap.size < w3.heap.size:=sq bj.size;have bN:am w3 (w.heap.size+1+1+1) x [.slice dG x.Z.length bV,.slice dS x.O.length dJ,.int .i64 x.next,.int .i64 x.weights.pack,.int .i64 x.weights.af,.int .i64 x.weights.an] G1:=(((jX.mono S').alloc _).ext av).ext bj;have RZ:=I bN;clear jX bN h h';go_wp2_with fail
  try dsimp only
  iterate 60 (first | go_step | skip)
  refine bodyPost_ret (v:=.tuple #[.agg #[.slice dG x.Z.length bV,.slice dS x.O.length dJ,.int .i64 x.next,.int .i64 u.pack,.int .i64 u.af,.int .i64 u.an],.int .i64 0]) (by simp [results,Tryz.results112,go_sem, *]) rfl ?_;rw [HF.out]
  first
   | refine ⟨[.slice dG x.Z.length bV,.slice dS x.O.length dJ,.int .i64 x.next,.int .i64 u.pack,.int .i64 u.af,.int .i64 u.an],G1,rfl,?_,?_⟩
   | refine ⟨[.slice dG x.Z.length bV,.slice dS x.O.length dJ,.int .i64 x.next,.int .i64 u.pack,.int .i64 u.af,.int .i64 u.an],rfl,⟨G1,?_⟩,?_⟩
  ·try dsimp only
   refine am.mono (B:=w.heap.size+1+1+1) ?_ J;exact (by repeat (first | with_reducible exact (RZ.out.ag1 u Sr Jm Sv) | with_reducible refine am.setCell ?_ bz _ | with_reducible refine OC ?_ (fun y hy=>fo y hy)))
  ·exact qi
theorem sI {α:Type} (f:α→ByteArray):∀(xs:List α) (b:ByteArray),db (xs.foldl (fun s x=>s++f x) b) = db b++xs.flatMap fun x=>db (f x)
 | [],b=>by simp
 | x :: xs,b=>by rw [List.foldl_cons,sI f xs,nW,List.flatMap_cons,List.append_assoc]
theorem eA {α:Type} {ok:α→Bool} {less:α→α→Bool} {most:Int} {xs:List α} (h:lE ok less most xs = true):(xs.length:Int)≤most∧∀x∈xs,ok x = true:=by
 unfold lE at h;rw [Bool.and_eq_true,decide_eq_true_eq] at h;refine ⟨h.1,fun x hx=>?_⟩;obtain ⟨k,hk,rfl⟩:=List.getElem_of_mem hx;exact asz hk (List.all_eq_true.1 h.2 k (List.mem_range.2 hk))
theorem ax2 (s:ByteArray) {a:Int} (ha:a < 0):(iF s a).2 < 0:=by
 have h1:(iP s a).2 < 0:=by unfold iP;refine MP (fun a ha=>RW ha) _ _ _ ?_;rw [IY (by decide) ha];decide
 unfold iF;split
 ·exact h1
 ·show (-1:Int) < 0;decide
def LT (ls:List ao):List UInt8:=db (Fe ls)
section
variable (s:ByteArray) (hs:(s.size:Int)≤1048576)
include hs
theorem aDy:d7 s (Gs s) (fun t=>ST t.key++(ST t.value++VT t.al)) (fun t=>gh t.al) :=
 d7.map (f:=fun p:ByteArray × ByteArray × Int=>(⟨p.1,p.2.1,p.2.2⟩:iU)) (fun t=>(t.key,t.value,t.al)) (fun t=>gh t.al)
  ((tv s hs).b9 (fun _ _=>(tv s hs).b9 (fun _ _=>mK s) (fun _ a ha=>Y0 ha)) (fun _ a ha=>Y0 (EU ha)))
  (fun x h=>⟨⟨trivial,trivial,h⟩,rfl⟩) (fun v h=>⟨h.2.2,rfl⟩)
theorem aF6:d7 s (xu s) (fun l=>ST l.key++ST l.value) (fun _=>True) :=
 d7.map (f:=fun p:ByteArray × ByteArray=>(⟨p.1,p.2⟩:ao)) (fun t=>(t.key,t.value)) (fun _=>True)
  ((tv s hs).b9 (fun _ _=>tv s hs) (fun _ a ha=>EU ha)) (fun x h=>⟨⟨trivial,trivial⟩,rfl⟩) (fun v h=>⟨trivial,rfl⟩)
theorem aJW:d7 s (iF s) LT (fun ls=>sD ls = true):=by
 refine ((d7.nJ (aF6 s hs) (fun a ha=>RW ha) 6 (by decide)).check sD).to (fun v=>?_) (fun v _=>?_)
 ·exact ⟨fun h=>h.2,fun h=>⟨⟨(eA h).1,fun _ _=>trivial⟩,h⟩⟩
 ·show _ = db (Fe v);unfold Fe;rw [sI];simp only [nW];rfl
def HT (h:az):List UInt8:=db (wS h)
def Nd (h:az):Prop:=Aj h = true∧h.ax≤9223372036854775807∧h.mem≤9223372036854775807
theorem aA5:d7 s (Ad s) HT Nd:=by
 have h3:=(mK s).b9 (fun _ _=>d7.nJ (aDy s hs) (fun a ha=>QJ ha) 4 (by decide)) (fun _ a ha=>UL (fun a ha=>QJ ha) (by decide) ha);have n3:∀a,a < 0→(xC (Gs s) s 4 (fG s a).2).2 < 0:=fun a ha=>UL (fun a ha=>QJ ha) (by decide) (Y0 ha);have h2:=(mK s).b9 (fun _ _=>h3) (fun _ a ha=>n3 a ha);have h1:=(mK s).b9 (fun _ _=>h2) (fun _ a ha=>n3 _ (Y0 ha));have h0:=(aJW s hs).b9 (fun _ _=>h1) (fun _ a ha=>n3 _ (Y0 (Y0 ha)));have hh:=(tv s hs).b9 (fun _ _=>h0) (fun _ a ha=>n3 _ (Y0 (Y0 (ax2 s ha))))
 have hm:=d7.map (f:=fun p:ByteArray × List ao × Int × Int × Int × List iU=>(⟨p.1,p.2.1,p.2.2.1,p.2.2.2.1,p.2.2.2.2.1,p.2.2.2.2.2⟩:az)) (fun h=>(h.name,h.labels,h.ax,h.mem,h.ar,h.aT))
  (fun h=>sD h.labels = true∧gh h.ax∧gh h.mem∧gh h.ar∧(h.aT.length:Int)≤4∧∀t∈h.aT,gh t.al) hh (fun x h=>⟨⟨trivial,h.1,h.2.1,h.2.2.1,h.2.2.2.1,h.2.2.2.2⟩,rfl⟩) (fun v h=>⟨⟨h.2.1,h.2.2.1,h.2.2.2.1,h.2.2.2.2.1,h.2.2.2.2.2⟩,rfl⟩)
 refine (hm.check Aj).to (fun v=>?_) (fun v hv=>?_)
 ·constructor
  ·rintro ⟨⟨_,a,b,_⟩,h⟩;exact ⟨h,a.2,b.2⟩
  ·rintro ⟨h,a,b⟩;have h':=h;unfold Aj at h';simp only [Bool.and_eq_true,decide_eq_true_eq] at h';obtain ⟨⟨⟨⟨_,hl⟩,ht⟩,h5,h6⟩,h7,h8⟩:=h';obtain ⟨t1,t2⟩:=eA ht;refine ⟨⟨hl,⟨h5,a⟩,⟨h6,b⟩,⟨J,J⟩,t1,fun t hx=>?_⟩,h⟩;have:=t2 t hx;unfold Dp at this;exact qv
 ·show _ = db (wS v);unfold wS;rw [if_pos hv.2];unfold H8;rw [List.take_length,sI];unfold Oe MB;simp only [nW,List.append_assoc];rfl
theorem aEr:d7 s (JB s) (fun n=>ST n.key++(VT n.op++(VT n.values.length++n.values.flatMap ST))) (fun n=>gh n.op∧(n.values.length:Int)≤4):=by
 have h1:=(mK s).b9 (fun _ _=>d7.nJ (tv s hs) (fun a ha=>EU ha) 4 (by decide)) (fun _ a ha=>UL (fun a ha=>EU ha) (by decide) ha);have h0:=(tv s hs).b9 (fun _ _=>h1) (fun _ a ha=>UL (fun a ha=>EU ha) (by decide) (Y0 ha));exact d7.map (f:=fun p:ByteArray × Int × List ByteArray=>(⟨p.1,p.2.1,p.2.2⟩:ba)) (fun n=>(n.key,n.op,n.values)) (fun n=>gh n.op∧(n.values.length:Int)≤4) h0 (fun x h=>⟨⟨trivial,h.1,h.2,fun _ _=>trivial⟩,rfl⟩) (fun v h=>⟨⟨h.2.1,h.2.2.1⟩,rfl⟩)
theorem aF7:d7 s (Zf s) (fun t=>ST t.key++(VT (pQ t.equal)++(ST t.value++VT t.al))) (fun t=>gh t.al):=by
 have h2:=(tv s hs).b9 (fun _ _=>mK s) (fun _ a ha=>Y0 ha);have h1:=(VO s 1).b9 (fun _ _=>h2) (fun _ a ha=>Y0 (EU ha));have h0:=(tv s hs).b9 (fun _ _=>h1) (fun _ a ha=>Y0 (EU (by rw [IY (by decide) ha];decide)));refine d7.map (f:=fun p:ByteArray × Int × ByteArray × Int=>(⟨p.1,p.2.1 == 1,p.2.2.1,p.2.2.2⟩:bH)) (fun t=>(t.key,pQ t.equal,t.value,t.al)) (fun t=>gh t.al) h0 (fun x h=>?_) (fun v h=>?_)
 ·obtain ⟨k,e,v,f⟩:=x;cases e
  ·exact ⟨⟨trivial,⟨⟨show (0:Int)≤0 by decide,show (0:Int)≤9223372036854775807 by decide⟩,show (0:Int)≤1 by decide⟩,trivial,h⟩,rfl⟩
  ·exact ⟨⟨trivial,⟨⟨show (0:Int)≤1 by decide,show (1:Int)≤9223372036854775807 by decide⟩,show (1:Int)≤1 by decide⟩,trivial,h⟩,rfl⟩
 ·obtain ⟨k,n,t,f⟩:=v;obtain ⟨_,⟨⟨n0,_⟩,n1⟩,_,hf⟩:=h;dsimp only at n0 n1 hf ⊢;refine ⟨hf,?_⟩;rcases (show n = 0∨n = 1 by omega) with rfl | rfl <;> rfl
def PT (p:nI):List UInt8:=db (Bg p)
def CR (p:nI):Prop:=GU p = true∧p.ax≤9223372036854775807∧p.mem≤9223372036854775807
theorem aCL:d7 s (Dl s) PT CR:=by
 have h4:=(d7.nJ (aEr s hs) (fun a ha=>VK ha) 4 (by decide)).b9 (fun _ _=>d7.nJ (aF7 s hs) (fun a ha=>QK ha) 4 (by decide)) (fun _ a ha=>UL (fun a ha=>QK ha) (by decide) ha);have n4:∀a,a < 0→(xC (Zf s) s 4 (xC (JB s) s 4 a).2).2 < 0:=fun a ha=>UL (fun a ha=>QK ha) (by decide) (UL (fun a ha=>VK ha) (by decide) ha);have h3:=(mK s).b9 (fun _ _=>h4) (fun _ a ha=>n4 a ha);have h2:=(mK s).b9 (fun _ _=>h3) (fun _ a ha=>n4 _ (Y0 ha));have h1:=(mK s).b9 (fun _ _=>h2) (fun _ a ha=>n4 _ (Y0 (Y0 ha)));have h0:=(aJW s hs).b9 (fun _ _=>h1) (fun _ a ha=>n4 _ (Y0 (Y0 (Y0 ha))));have hh:=(tv s hs).b9 (fun _ _=>h0) (fun _ a ha=>n4 _ (Y0 (Y0 (Y0 (ax2 s ha)))))
 have hm:=d7.map (f:=fun p:ByteArray × List ao × Int × Int × Int × List ba × List bH=>(⟨p.1,p.2.1,p.2.2.1,p.2.2.2.1,p.2.2.2.2.1,p.2.2.2.2.2.1,p.2.2.2.2.2.2⟩:nI)) (fun h=>(h.name,h.labels,h.ax,h.mem,h.aD,h.ag,h.ae))
  (fun h=>sD h.labels = true∧gh h.ax∧gh h.mem∧gh h.aD∧((h.ag.length:Int)≤4∧∀t∈h.ag,gh t.op∧(t.values.length:Int)≤4)∧((h.ae.length:Int)≤4∧∀t∈h.ae,gh t.al)) hh (fun x h=>⟨⟨trivial,h.1,h.2.1,h.2.2.1,h.2.2.2.1,h.2.2.2.2⟩,rfl⟩) (fun v h=>⟨⟨h.2.1,h.2.2.1,h.2.2.2.1,h.2.2.2.2.1,h.2.2.2.2.2⟩,rfl⟩)
 refine (hm.check GU).to (fun v=>?_) (fun v hv=>?_)
 ·constructor
  ·rintro ⟨⟨_,a,b,_⟩,h⟩;exact ⟨h,a.2,b.2⟩
  ·rintro ⟨h,a,b⟩;have h':=h;unfold GU at h';simp only [Bool.and_eq_true,decide_eq_true_eq] at h';obtain ⟨⟨⟨⟨⟨_,hl⟩,hn⟩,ht⟩,h5,h6⟩,h7,h8⟩:=h';obtain ⟨t1,t2⟩:=eA ht;obtain ⟨n1,n2⟩:=eA hn;refine ⟨⟨hl,⟨h5,a⟩,⟨h6,b⟩,⟨J,J⟩,⟨n1,fun t hx=>?_⟩,t1,fun t hx=>?_⟩,h⟩
   ·have:=n2 t hx;unfold uh at this;simp only [Bool.and_eq_true,decide_eq_true_eq] at this;obtain ⟨⟨_,h9,h10⟩,h11⟩:=this;refine ⟨⟨J,J⟩,?_⟩;split at h11
    ·rw [decide_eq_true_eq] at h11;omega
    ·rw [Bool.and_eq_true] at h11;exact (eA h11.2).1
   ·have:=t2 t hx;unfold Q5 at this;exact qv
 ·show _ = db (Bg v);unfold Bg;rw [if_pos hv.2];exact Ip
def CS (hs:List az) (nm:ByteArray):Prop:=nm = ⟨#[]⟩∨∃h∈hs,h.name = nm
structure mx (hs:List az):Prop where
 ne:∀h∈hs,h.name≠⟨#[]⟩
 pw:hs.Pairwise fun a b=>a.name≠b.name
omit hs
theorem aCM {hs:List az} (U:mx hs) {j:Nat} (hj:j < hs.length):pK (iM hs[j].name) hs = j:=by
 have h0:0≤pK (iM hs[j].name) hs:=LS.2 ⟨_,List.getElem_mem hj,Cf.2 rfl⟩;obtain ⟨h1,h2,h3⟩:=LV (LX h0);rw [Cf] at h2;rw [LX h0];by_cases he:(pK (iM hs[j].name) hs).toNat = j
 ·rw [he]
 ·exfalso;rcases Nat.lt_or_gt_of_ne he with h4 | h4
  ·exact List.pairwise_iff_getElem.1 U.pw _ _ h1 hj h4 h2
  ·exact List.pairwise_iff_getElem.1 U.pw _ _ hj h1 h4 h2.symm
theorem aAb {hs:List az} (U:mx hs):pK (iM ⟨#[]⟩) hs = -1 :=
 F5 fun y hy=>by
  cases he:iM ⟨#[]⟩ y with
  | false=>rfl
  | true=>exact absurd (Cf.1 he) (U.ne y hy)
def QP (hs:List az) (p:ai):List UInt8:=PT p.aS++(VT (1+pK (iM p.on) hs)++VT p.seq)
include hs
theorem aCN {hl:List az} (U:mx hl) (hn:hl.length≤8):d7 s (JF s hl) (QP hl) (fun p=>CR p.aS∧CS hl p.on∧gh p.seq):=by
 have h1:=(VO s hl.length).b9 (fun _ _=>mK s) (fun _ a ha=>Y0 ha);have h0:=(aCL s hs).b9 (fun _ _=>h1) (fun _ a ha=>Y0 (by rw [IY J ha];decide));refine d7.map (f:=fun p:nI × Int × Int=>(⟨p.1,Bl hl p.2.1,p.2.2⟩:ai)) (fun p=>(p.aS,1+pK (iM p.on) hl,p.seq)) (fun p=>CR p.aS∧CS hl p.on∧gh p.seq) h0 (fun x h=>?_) (fun v h=>?_)
 ·obtain ⟨p,on,q⟩:=x;obtain ⟨h1,h2,h3⟩:=h;dsimp only at h1 h2 h3 ⊢;rcases h2 with rfl | ⟨g,hg,rfl⟩
  ·rw [aAb U];exact ⟨⟨h1,⟨⟨show (0:Int)≤1+-1 by decide,show (1+-1:Int)≤9223372036854775807 by decide⟩,show (1+-1:Int)≤hl.length by omega⟩,h3⟩,by rw [ZV (by decide)]⟩
  ·obtain ⟨j,hj,rfl⟩:=List.getElem_of_mem hg;rw [aCM U hj];exact ⟨⟨h1,⟨⟨show (0:Int)≤1+j by omega,show (1+j:Int)≤9223372036854775807 by omega⟩,show (1+j:Int)≤hl.length by omega⟩,h3⟩,by rw [VL hj J]⟩
 ·obtain ⟨p,k,q⟩:=v;obtain ⟨h1,⟨⟨h2,_⟩,h4⟩,h3⟩:=h;dsimp only at h1 h2 h3 h4 ⊢;by_cases hk:0 < k
  ·obtain ⟨j,rfl⟩:∃j:Nat,k = (j:Int)+1:=⟨(k - 1).toNat,J⟩;have hj:j < hl.length:=J;rw [VL hj rfl,aCM U hj];exact ⟨⟨h1,.inr ⟨_,List.getElem_mem hj,rfl⟩,h3⟩,by rw [Int.add_comm]⟩
  ·obtain rfl:k = 0:=by omega
   rw [ZV (by decide),aAb U];exact ⟨⟨h1,.inl rfl,h3⟩,rfl⟩
def CT (x:aU):List UInt8:=VT x.weights.pack++(VT x.weights.af++(VT x.weights.an++(VT x.next++(VT x.Z.length++x.Z.flatMap HT))))++(VT x.O.length++x.O.flatMap (QP x.Z))
def Nf (x:aU):Prop:=(gh x.weights.pack∧gh x.weights.af∧gh x.weights.an∧gh x.next∧(x.Z.length:Int)≤8∧∀h∈x.Z,Nd h)∧(x.O.length:Int)≤12∧∀p∈x.O,CR p.aS∧CS x.Z p.on∧gh p.seq
theorem aCO {x:aU} (U:mx x.Z) (b:Int):(RQ s = (x,b)∧0≤b)↔(Nf x∧i8 s 0 (CT x)∧b = 0+(CT x).length):=by
 have nH:∀a,a < 0→(xC (Ad s) s 8 a).2 < 0:=fun a ha=>UL (fun a ha=>aqf ha) (by decide) ha;have h4:=(mK s).b9 (fun _ _=>d7.nJ (aA5 s hs) (fun a ha=>aqf ha) 8 (by decide)) (fun _ a ha=>nH a ha);have h3:=(mK s).b9 (fun _ _=>h4) (fun _ a ha=>nH _ (Y0 ha));have h2:=(mK s).b9 (fun _ _=>h3) (fun _ a ha=>nH _ (Y0 (Y0 ha)));have h1:=(mK s).b9 (fun _ _=>h2) (fun _ a ha=>nH _ (Y0 (Y0 (Y0 ha))))
 have hp:=h1.aD1 (q:=fun v:Int × Int × Int × Int × List az=>xC (JF s v.2.2.2.2) s 12) (x.weights.pack,x.weights.af,x.weights.an,x.next,x.Z)
  (fun ho=>d7.nJ (aCN s hs U (by have h8:(x.Z.length:Int)≤8:=ho.2.2.2.2.1;omega)) (fun a ha=>adY ha) 12 (by decide)) (fun v a ha=>UL (fun a ha=>adY ha) (by decide) ha) (Int.le_refl 0) x.O b
 constructor
 ·rintro ⟨e,hb⟩;refine hp.1 ⟨?_,hb⟩;have e1:(RQ s).1 = x:=by rw [e]
  have e2:(RQ s).2 = b:=by rw [e]
  rw [← e2,← e1];rfl
 ·intro h;obtain ⟨e,hb⟩:=hp.2 h;refine ⟨?_,hb⟩;simp only [Prod.mk.injEq] at e;obtain ⟨⟨⟨a1,a2,a3,a4,a5⟩,a6⟩,a7⟩:=e;obtain ⟨xh,xp,xn,⟨xa,xb,xc⟩⟩:=x;dsimp only at a1 a2 a3 a4 a5 a6 a7;subst a1 a2 a3 a4 a5 a6 a7;rfl
end
end Go.Proofs.YtjahcnjmjahbaaaGreat
