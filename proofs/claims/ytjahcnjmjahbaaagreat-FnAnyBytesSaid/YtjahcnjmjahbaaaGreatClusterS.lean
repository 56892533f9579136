/- ClusterOk, of the reference. No condition. -/
import Derived.Test.YtjahcnjmjahbaaaGreatClusterSC
import Derived.Test.YtjahcnjmjahbaaaGreatBest
namespace Go.Proofs.YtjahcnjmjahbaaaGreat
open Go.ChangeShapes Go.WideShapes Go.ChangeAt Go.RowKit
set_option linter.unusedVariables false
set_option linter.unusedSimpArgs false
set_option maxHeartbeats 8000000
set_option maxRecDepth 100000
theorem qM (x:aU) (cs:List Value) (F:List Nat) (w:World) (h:rd w x cs F) (hw:(x.wt:Int)<=1048576) :
 Calls Tryz.prog 20 #[.agg cs.toArray] w λe w'=>e = .returned (.bool (iI x))/\Below w.heap.size w w':=by
 have fv:x.wt = kL az.wt x.aa+kL ag.wt x.O:=rfl;have cA:(x.aa.length:Int)<=1048576:=by have:=gJ az.wt x.aa;omega
 have vk:(x.O.length:Int)<=1048576:=by have:=gJ ag.wt x.O;omega
 refine Dx x cs F w h cA vk (λy hy=>?_) (λy hy=>?_)
 ·obtain ⟨k,hk,rfl⟩:=List.getElem_of_mem hy;exact U6.o4 _ (by have:=rM (f:=az.wt) hk;omega)
 ·exact M1
def Bb (x:aU) (p:ag):ByteArray:=jD (1+pK (iM p.on) x.aa)++jD p.seq
def I9 (x:aU) (p:ag):ByteArray:=Bg p.aS++Bb x p
def UR (x:aU):ByteArray:=jD x.weights.pack++jD x.weights.spread++jD x.weights.soft++jD x.next++jD x.aa.length
def zn (x:aU) (k:Nat):ByteArray:=(x.aa.take k).foldl (λs h=>s++wS h) (UR x)
def RY (x:aU):ByteArray:=zn x x.aa.length++jD x.O.length
def Ig (x:aU) (k:Nat):ByteArray:=(x.O.take k).foldl (λs p=>s++I9 x p) (RY x)
def JC (x:aU):ByteArray:=if iI x then Ig x x.O.length else ⟨#[]⟩
theorem QG {x:aU} {k:Nat} (h:k < x.aa.length):zn x (k+1) = zn x k++wS x.aa[k]:=FI _ _ _ _ h
theorem TU {x:aU} {k:Nat} (h:k < x.O.length):Ig x (k+1) = Ig x k++I9 x x.O[k]:=FI _ _ _ _ h
theorem aoV {x:nI} (h:GU x = true):(x.af.length:Int)<=4:=by
 unfold GU kw mw at h;exact sC
theorem Yt {w:World} {x:az} {cs:List Value} {F:List Nat} (h:rd w x cs F) (hw:(x.wt:Int)<=1048576):(wS x).size<=4500000000000:=by
 have fv:x.wt = x.name.size+kL ao.wt x.labels+kL iU.wt x.aT:=rfl;obtain ⟨dq,di⟩:=sW (xs:=x.labels) J;obtain ⟨fu,dr⟩:=BH (xs:=x.aT) J;obtain ⟨gu,gy,jw,kJ,kK,qU,aq,hF,hname,dO,vg,b8,uI,jq⟩:=iy h;have lz:=iJ x.name J;have me:=IC x.labels dq di;have FH:=bM x.aw vg;have FJ:=bM x.mem b8;have FK:=bM x.slots uI;have FL:=bM x.aT.length ⟨J,J⟩;have hb:=NH x dr jq.ac9 x.aT.length (Nat.le_refl _);have hm:x.aT.length * 2097182<=1048576 * 2097182:=Nat.mul_le_mul_right _ J;have hh:(Oe x).size<=2199046980000:=by unfold Oe;simp only [ByteArray.size_append];omega
 unfold wS;split
 ·omega
 ·exact Nat.zero_le _
theorem Z7 {w:World} {x:nI} {cs:List Value} {F:List Nat} (h:rd w x cs F) (hw:(x.wt:Int)<=1048576):(Bg x).size<=9000000000000:=by
 have fv:x.wt = x.name.size+kL ao.wt x.labels+kL aE.wt x.af+kL bH.wt x.ae:=rfl;obtain ⟨dq,di⟩:=sW (xs:=x.labels) J;obtain ⟨mW,VU⟩:=Aa (xs:=x.af) J;obtain ⟨fu,dr⟩:=FQ (xs:=x.ae) J;obtain ⟨gu,gy,jw,oh,nT,wG,fA,fB,jY,aq,hF,hname,dO,vg,b8,BJ,mX,eG⟩:=dL h;have lz:=iJ x.name J;have me:=IC x.labels dq di;have FH:=bM x.aw vg;have FJ:=bM x.mem b8;have FK:=bM x.av BJ;have FL:=bM x.af.length ⟨J,J⟩;have hq7:=bM x.ae.length ⟨J,J⟩;have hh:(RF x).size<=2199046980000:=by unfold RF;simp only [ByteArray.size_append];omega
 have hn:=Gf x VU mX.ag4 x.af.length (Nat.le_refl _);have ht:=PO x dr eG.akX x.ae.length (Nat.le_refl _);have hm:x.ae.length * 2097192<=1048576 * 2097192:=Nat.mul_le_mul_right _ J;have yX:(TQ x).size<=(Bh x x.af.length).size+10:=by unfold TQ;rw [ByteArray.size_append];omega
 unfold Bg;split
 ·rename_i hR;have:=aoV hR;have pT:x.af.length * 1099523200000<=4 * 1099523200000:=Nat.mul_le_mul_right _ J;omega
 ·exact Nat.zero_le _
theorem akW {α:Type} (p:α->Bool) (xs:List α) (hl:(xs.length:Int)<=1048576):aR (1+pK p xs):=by
 have:=Nc (p:=p) xs;exact ⟨J,J⟩
theorem Yu {x:aU} {p:ag} (hl:(x.aa.length:Int)<=1048576) (hp:aR p.seq):(Bb x p).size<=20:=by
 have a:=bM (1+pK (iM p.on) x.aa) (akW _ _ hl);have b:=bM p.seq hp;unfold Bb;rw [ByteArray.size_append];omega
theorem Ih (x:aU) (hx:∀h∈x.aa,(wS h).size<=4500000000000):∀k,k<=x.aa.length->(zn x k).size<=(UR x).size+k * 4500000000000
 | 0,_=>by simp [zn]
 | k+1,h=>by
   rw [QG J,ByteArray.size_append];have h1:=Ih x hx k J;have h2:=hx x.aa[k] (List.getElem_mem ..);omega
theorem TT (x:aU) (hx:∀p∈x.O,(Bg p.aS).size<=9000000000000) (hl:(x.aa.length:Int)<=1048576) (hs:∀p∈x.O,aR p.seq):∀k,k<=x.O.length->(Ig x k).size<=(RY x).size+k * 9000000000020
 | 0,_=>by simp [Ig]
 | k+1,h=>by
   rw [TU J,ByteArray.size_append];have h1:=TT x hx hl hs k J;have h2:=hx x.O[k] (List.getElem_mem ..);have h3:=Yu hl (hs x.O[k] (List.getElem_mem ..));unfold I9;rw [ByteArray.size_append];omega
theorem Z8 {x:aU} (h:iI x = true):(x.aa.length:Int)<=8/\(x.O.length:Int)<=12:=by
 unfold iI Em at h;simp only [Bool.and_eq_true,decide_eq_true_eq] at h;exact ⟨h.1.1,h.1.2.1⟩
theorem asz {α:Type} {ok:α->Bool} {less:α->α->Bool} {xs:List α} {k:Nat} (hk:k < xs.length) (h:rowAt ok less xs k = true):ok xs[k] = true:=by
 cases k with
 | zero=>rw [bF hk] at h;exact h
 | succ j=>rw [yS hk] at h;simp only [Bool.and_eq_true] at h;exact h.1
theorem aiu {x:aU} (h:iI x = true):∀y∈x.aa,0 < y.name.size:=by
 intro y hy;obtain ⟨k,hk,rfl⟩:=List.getElem_of_mem hy;unfold iI at h;simp only [Bool.and_eq_true] at h;have h1:=asz hk (List.all_eq_true.1 h.2.1 k (List.mem_range.2 hk));unfold dY Aj Qs at h1;simp only [Bool.and_eq_true,decide_eq_true_eq] at h1;omega
theorem ap6 {x:aU} (h:iI x = true) {nm:ByteArray} (hn:(nm.toList == []) = true):pK (iM nm) x.aa = -1:=by
 refine F5 λy hy=>?_;have h1:=aiu h y hy;have h2:nm.toList = []:=by simpa using hn
 have h3:nm = ⟨#[]⟩:=(PW _ _).1 (by show (nm.toList == (⟨#[]⟩:ByteArray).toList) = true;rw [h2];unfold ByteArray.toList;rw [ByteArray.toList.loop];rfl);subst h3;cases he:iM ⟨#[]⟩ y with
 | false=>rfl
 | true =>exfalso;have h4:y.name = ⟨#[]⟩:=(PW _ _).1 he;rw [h4] at h1;exact absurd h1 (by decide)
theorem aeF (x:aU) (cs:List Value) (F:List Nat) (p:ag) (ds:List Value) (G:List Nat) (w:World) (h:rd w x cs F) (hp:rd w p ds G) (hl:(x.aa.length:Int)<=1048576) :
 Calls Tryz.prog 30 #[.agg cs.toArray,.agg ds.toArray] w λe w'=>e = .returned (.string (Bb x p))/\Below w.heap.size w w':=by
 have hI:=akW (iM p.on) x.aa hl;have am:=Nc (p:=iM p.on) x.aa;have te:=bM _ hI;have VN:IntKind.i64.wrap (1+pK (iM p.on) x.aa) = 1+pK (iM p.on) x.aa:=by rw [IntKind.wrap_i64];omega
 have C8:IntKind.i64.wrap (pK (iM p.on) x.aa+1) = 1+pK (iM p.on) x.aa:=by rw [IntKind.wrap_i64];omega
 have hr:=h;have Q3:=hp;obtain ⟨bG,bD,fQ,dn,bW,jg,aq,hF,bQ,dM,hnext,aV,aP,aW⟩:=aO hr;subst aq;obtain ⟨mZ,ng,DX,oL,oM,FC,jG,jH,wu,aq,kt,Ci,wR,EM,EN,Cj,yU,pF,OW,Zt⟩:=kE Q3;subst aq;clear hr hF Q3 kt;have dt:=bM p.seq Zt;go_enter Tryz.func30,Tryz.ntmps30;go_wp2_with fail
 refine aF _ U' U' (aj _) ?_
 repeat (first
  | (apply aG
     case hw=>rfl
     simp only [Act.put,pz])
  | (apply aH
     case hw=>rfl
     case h =>
      intro wq hq;have cN:=(aB hq).1;have lJ:=(aB hq).2;go_simp
      first
       | exact ⟨hq,rfl⟩
       | exact ⟨aQ hq _,rfl⟩
       | (first | (refine (gK x _ _ p.on _ (aJ h (ah bc hq)) hl).mono ?_;rintro e wz ⟨rfl,nV⟩;exact ⟨rfl,aI hq nV⟩) | ((try rw [VN]);(try rw [C8]);refine (wE _ _ pB).mono ?_;rintro e wz ⟨rfl,nV⟩;exact ⟨rfl,aI hq nV⟩))
       | (simp only [↓IntWalk.iteOmega];exact ⟨hq,rfl⟩)
     simp only [Act.put,pz]))
 refine aN ?_;intro wn hn;replace hn:=hn.out;go_wp2;go_ret
 exact ⟨rfl,bc⟩
theorem ag3 (x:aU) (cs:List Value) (F:List Nat) (p:ag) (ds:List Value) (G:List Nat) (w:World) (h:rd w x cs F) (hp:rd w p ds G) (hl:(x.aa.length:Int)<=1048576) (hc:iI x = true) :
 Calls Tryz.prog 84 #[.agg cs.toArray,.agg ds.toArray] w λe w'=>e = .returned (.string (Bb x p))/\Below w.heap.size w w':=by
 have hI:=akW (iM p.on) x.aa hl;have am:=Nc (p:=iM p.on) x.aa;have te:=bM _ hI;have VN:IntKind.i64.wrap (1+pK (iM p.on) x.aa) = 1+pK (iM p.on) x.aa:=by rw [IntKind.wrap_i64];omega
 have C8:IntKind.i64.wrap (pK (iM p.on) x.aa+1) = 1+pK (iM p.on) x.aa:=by rw [IntKind.wrap_i64];omega
 have hr:=h;have Q3:=hp;obtain ⟨bG,bD,fQ,dn,bW,jg,aq,hF,bQ,dM,hnext,aV,aP,aW⟩:=aO hr;subst aq;obtain ⟨mZ,ng,DX,oL,oM,FC,jG,jH,wu,aq,kt,Ci,wR,EM,EN,Cj,yU,pF,OW,Zt⟩:=kE Q3;subst aq;clear hr hF Q3 kt;have dt:=bM p.seq Zt;have HC:=I hc;clear hc;cases eI:(p.on.toList == []) with
 | true =>
   have hm:=ap6 HC.out eI;have UX:=I (show Bb x p = jD 0++jD p.seq by unfold Bb;rw [hm];rfl);have hJ:=bM 0 p';clear hm;go_enter Tryz.func84,Tryz.ntmps84;go_wp2_with fail
   refine aF _ U' U' (aj _) ?_
   repeat (first
    | (apply aG
       case hw=>rfl
       simp only [Act.put,pz])
    | (apply aH
       case hw=>rfl
       case h =>intro wq hq;have cN:=(aB hq).1;have lJ:=(aB hq).2;exact Mi
       simp only [Act.put,pz]))
   refine aN ?_;intro wn hn;replace hn:=hn.out;go_wp2;go_ret
   exact ⟨by rw [UX.out];rfl,bc⟩
 | false =>
   go_enter Tryz.func84,Tryz.ntmps84;go_wp2_with fail
   refine (gQ x _ _ p.on _ (aJ h bc) hl).mono ?_;rintro e w2 ⟨rfl,ap⟩;obtain ⟨bX,cE⟩:=ay ap;have cr:w.heap.size < w2.heap.size:=(sq ap.size);have nu:w.heap.size+1 < w2.heap.size:=(by have:=ap.size;simp at this;omega);have kb:w2.cell? ⟨w.heap.size+1,8,none⟩ = some (.int .i64 p.seq):=(by rw [bX _ _ S'];rw [cell_of_row _ _ _ _ _ _ (by have e:=heap_alloc_new (w.alloc (.cells #[.slice bG x.aa.length bD,.slice dn x.O.length bW,.int .i64 x.next,.int .i64 x.weights.pack,.int .i64 x.weights.spread,.int .i64 x.weights.soft] 29));simpa using e _)];rfl);go_wp2_with fail
   refine aF _ U' U' (aj _) ?_
   repeat (first
    | (apply aG
       case hw=>rfl
       simp only [Act.put,pz])
    | (apply aH
       case hw=>rfl
       case h =>intro wq hq;have cN:=(aB hq).1;have lJ:=(aB hq).2;have kq:=(cN _ 8 nu).trans kb;exact Mi
       simp only [Act.put,pz]))
   refine aN ?_;intro wn hn;replace hn:=hn.out;go_wp2;go_ret
   exact ⟨rfl,bc⟩
theorem vc {α:Type} (f:α->ByteArray):∀(xs:List α) (b:ByteArray),dB (xs.foldl (λs x=>s++f x) b) = dB b++xs.flatMap λx=>dB (f x)
 | [],b=>by simp
 | x :: xs,b=>by rw [List.foldl_cons,vc f xs,rj,List.flatMap_cons,List.append_assoc]
theorem eB {α:Type} {ok:α->Bool} {less:α->α->Bool} {most:Int} {xs:List α} (h:mw ok less most xs = true):(xs.length:Int)<=most/\∀x∈xs,ok x = true:=by
 unfold mw at h;rw [Bool.and_eq_true,decide_eq_true_eq] at h;refine ⟨h.1,λx hx=>?_⟩;obtain ⟨k,hk,rfl⟩:=List.getElem_of_mem hx;exact asz hk (List.all_eq_true.1 h.2 k (List.mem_range.2 hk))
theorem ax2 (s:ByteArray) {a:Int} (ha:a < 0):(iF s a).2 < 0:=by
 have h1:(iP s a).2 < 0:=by unfold iP;refine MP (λa ha=>Th ha) _ _ _ ?_;rw [MH (by decide) ha];decide
 unfold iF;split
 ·exact h1
 ·show (-1:Int) < 0;decide
def LT (ls:List ao):List UInt8:=dB (Fe ls)
section
variable (s:ByteArray) (hs:(s.size:Int)<=1048576)
include hs
theorem aDy:dT s (Gs s) (λt=>ST t.key++(ST t.value++VT t.effect)) (λt=>gl t.effect) :=
 dT.map (f:=λp:ByteArray × ByteArray × Int=>(⟨p.1,p.2.1,p.2.2⟩:iU)) (λt=>(t.key,t.value,t.effect)) (λt=>gl t.effect)
  ((vD s hs).pair (λ_ _=>(vD s hs).pair (λ_ _=>nJ s) (λ_ a ha=>Y0 ha)) (λ_ a ha=>Y0 (EU ha)))
  (λx h=>⟨⟨trivial,trivial,h⟩,rfl⟩) (λv h=>⟨h.2.2,rfl⟩)
theorem aF6:dT s (sa s) (λl=>ST l.key++ST l.value) (λ_=>True) :=
 dT.map (f:=λp:ByteArray × ByteArray=>(⟨p.1,p.2⟩:ao)) (λt=>(t.key,t.value)) (λ_=>True)
  ((vD s hs).pair (λ_ _=>vD s hs) (λ_ a ha=>EU ha)) (λx h=>⟨⟨trivial,trivial⟩,rfl⟩) (λv h=>⟨trivial,rfl⟩)
theorem aJW:dT s (iF s) LT (λls=>sD ls = true):=by
 refine ((dT.oR (aF6 s hs) (λa ha=>Th ha) 6 (by decide)).check sD).to (λv=>?_) (λv _=>?_)
 ·exact ⟨λh=>h.2,λh=>⟨⟨(eB h).1,λ_ _=>trivial⟩,h⟩⟩
 ·show _ = dB (Fe v);unfold Fe;rw [vc];simp only [rj];rfl
def HT (h:az):List UInt8:=dB (wS h)
def azJ (h:az):Prop:=Aj h = true/\h.aw<=9223372036854775807/\h.mem<=9223372036854775807
theorem aA5:dT s (Ad s) HT azJ:=by
 have h3:=(nJ s).pair (λ_ _=>dT.oR (aDy s hs) (λa ha=>Rg ha) 4 (by decide)) (λ_ a ha=>UL (λa ha=>Rg ha) (by decide) ha);have n3:∀a,a < 0->(xC (Gs s) s 4 (fG s a).2).2 < 0:=λa ha=>UL (λa ha=>Rg ha) (by decide) (Y0 ha);have h2:=(nJ s).pair (λ_ _=>h3) (λ_ a ha=>n3 a ha);have h1:=(nJ s).pair (λ_ _=>h2) (λ_ a ha=>n3 _ (Y0 ha));have h0:=(aJW s hs).pair (λ_ _=>h1) (λ_ a ha=>n3 _ (Y0 (Y0 ha)));have hh:=(vD s hs).pair (λ_ _=>h0) (λ_ a ha=>n3 _ (Y0 (Y0 (ax2 s ha))))
 have hm:=dT.map (f:=λp:ByteArray × List ao × Int × Int × Int × List iU=>(⟨p.1,p.2.1,p.2.2.1,p.2.2.2.1,p.2.2.2.2.1,p.2.2.2.2.2⟩:az)) (λh=>(h.name,h.labels,h.aw,h.mem,h.slots,h.aT))
  (λh=>sD h.labels = true/\gl h.aw/\gl h.mem/\gl h.slots/\(h.aT.length:Int)<=4/\∀t∈h.aT,gl t.effect) hh (λx h=>⟨⟨trivial,h.1,h.2.1,h.2.2.1,h.2.2.2.1,h.2.2.2.2⟩,rfl⟩) (λv h=>⟨⟨h.2.1,h.2.2.1,h.2.2.2.1,h.2.2.2.2.1,h.2.2.2.2.2⟩,rfl⟩)
 refine (hm.check Aj).to (λv=>?_) (λv hv=>?_)
 ·constructor
  ·rintro ⟨⟨_,a,b,_⟩,h⟩;exact ⟨h,a.2,b.2⟩
  ·rintro ⟨h,a,b⟩;have h':=h;unfold Aj at h';simp only [Bool.and_eq_true,decide_eq_true_eq] at h';obtain ⟨⟨⟨⟨_,hl⟩,ht⟩,h5,h6⟩,h7,h8⟩:=h';obtain ⟨t1,t2⟩:=eB ht;refine ⟨⟨hl,⟨h5,a⟩,⟨h6,b⟩,⟨J,J⟩,t1,λt hx=>?_⟩,h⟩;have:=t2 t hx;unfold Dp at this;exact sA
 ·show _ = dB (wS v);unfold wS;rw [if_pos hv.2];unfold H8;rw [List.take_length,vc];unfold Oe MB;simp only [rj,List.append_assoc];rfl
theorem aEr:dT s (JB s) (λn=>ST n.key++(VT n.op++(VT n.values.length++n.values.flatMap ST))) (λn=>gl n.op/\(n.values.length:Int)<=4):=by
 have h1:=(nJ s).pair (λ_ _=>dT.oR (vD s hs) (λa ha=>EU ha) 4 (by decide)) (λ_ a ha=>UL (λa ha=>EU ha) (by decide) ha);have h0:=(vD s hs).pair (λ_ _=>h1) (λ_ a ha=>UL (λa ha=>EU ha) (by decide) (Y0 ha));exact dT.map (f:=λp:ByteArray × Int × List ByteArray=>(⟨p.1,p.2.1,p.2.2⟩:aE)) (λn=>(n.key,n.op,n.values)) (λn=>gl n.op/\(n.values.length:Int)<=4) h0 (λx h=>⟨⟨trivial,h.1,h.2,λ_ _=>trivial⟩,rfl⟩) (λv h=>⟨⟨h.2.1,h.2.2.1⟩,rfl⟩)
theorem aF7:dT s (Zf s) (λt=>ST t.key++(VT (rY t.equal)++(ST t.value++VT t.effect))) (λt=>gl t.effect):=by
 have h2:=(vD s hs).pair (λ_ _=>nJ s) (λ_ a ha=>Y0 ha);have h1:=(axH s 1).pair (λ_ _=>h2) (λ_ a ha=>Y0 (EU ha));have h0:=(vD s hs).pair (λ_ _=>h1) (λ_ a ha=>Y0 (EU (by rw [MH (by decide) ha];decide)));refine dT.map (f:=λp:ByteArray × Int × ByteArray × Int=>(⟨p.1,p.2.1 == 1,p.2.2.1,p.2.2.2⟩:bH)) (λt=>(t.key,rY t.equal,t.value,t.effect)) (λt=>gl t.effect) h0 (λx h=>?_) (λv h=>?_)
 ·obtain ⟨k,e,v,f⟩:=x;cases e
  ·exact ⟨⟨trivial,⟨⟨show (0:Int)<=0 by decide,show (0:Int)<=9223372036854775807 by decide⟩,show (0:Int)<=1 by decide⟩,trivial,h⟩,rfl⟩
  ·exact ⟨⟨trivial,⟨⟨show (0:Int)<=1 by decide,show (1:Int)<=9223372036854775807 by decide⟩,show (1:Int)<=1 by decide⟩,trivial,h⟩,rfl⟩
 ·obtain ⟨k,n,t,f⟩:=v;obtain ⟨_,⟨⟨n0,_⟩,n1⟩,_,hf⟩:=h;dsimp only at n0 n1 hf |-;refine ⟨hf,?_⟩;rcases (show n = 0∨n = 1 by omega) with rfl | rfl <;> rfl
def PT (p:nI):List UInt8:=dB (Bg p)
def Rl (p:nI):Prop:=GU p = true/\p.aw<=9223372036854775807/\p.mem<=9223372036854775807
theorem aCL:dT s (Dl s) PT Rl:=by
 have h4:=(dT.oR (aEr s hs) (λa ha=>UZ ha) 4 (by decide)).pair (λ_ _=>dT.oR (aF7 s hs) (λa ha=>Jc ha) 4 (by decide)) (λ_ a ha=>UL (λa ha=>Jc ha) (by decide) ha);have n4:∀a,a < 0->(xC (Zf s) s 4 (xC (JB s) s 4 a).2).2 < 0:=λa ha=>UL (λa ha=>Jc ha) (by decide) (UL (λa ha=>UZ ha) (by decide) ha);have h3:=(nJ s).pair (λ_ _=>h4) (λ_ a ha=>n4 a ha);have h2:=(nJ s).pair (λ_ _=>h3) (λ_ a ha=>n4 _ (Y0 ha));have h1:=(nJ s).pair (λ_ _=>h2) (λ_ a ha=>n4 _ (Y0 (Y0 ha)));have h0:=(aJW s hs).pair (λ_ _=>h1) (λ_ a ha=>n4 _ (Y0 (Y0 (Y0 ha))));have hh:=(vD s hs).pair (λ_ _=>h0) (λ_ a ha=>n4 _ (Y0 (Y0 (Y0 (ax2 s ha)))))
 have hm:=dT.map (f:=λp:ByteArray × List ao × Int × Int × Int × List aE × List bH=>(⟨p.1,p.2.1,p.2.2.1,p.2.2.2.1,p.2.2.2.2.1,p.2.2.2.2.2.1,p.2.2.2.2.2.2⟩:nI)) (λh=>(h.name,h.labels,h.aw,h.mem,h.av,h.af,h.ae))
  (λh=>sD h.labels = true/\gl h.aw/\gl h.mem/\gl h.av/\((h.af.length:Int)<=4/\∀t∈h.af,gl t.op/\(t.values.length:Int)<=4)/\((h.ae.length:Int)<=4/\∀t∈h.ae,gl t.effect)) hh (λx h=>⟨⟨trivial,h.1,h.2.1,h.2.2.1,h.2.2.2.1,h.2.2.2.2⟩,rfl⟩) (λv h=>⟨⟨h.2.1,h.2.2.1,h.2.2.2.1,h.2.2.2.2.1,h.2.2.2.2.2⟩,rfl⟩)
 refine (hm.check GU).to (λv=>?_) (λv hv=>?_)
 ·constructor
  ·rintro ⟨⟨_,a,b,_⟩,h⟩;exact ⟨h,a.2,b.2⟩
  ·rintro ⟨h,a,b⟩;have h':=h;unfold GU at h';simp only [Bool.and_eq_true,decide_eq_true_eq] at h';obtain ⟨⟨⟨⟨⟨_,hl⟩,hn⟩,ht⟩,h5,h6⟩,h7,h8⟩:=h';obtain ⟨t1,t2⟩:=eB ht;obtain ⟨n1,n2⟩:=eB hn;refine ⟨⟨hl,⟨h5,a⟩,⟨h6,b⟩,⟨J,J⟩,⟨n1,λt hx=>?_⟩,t1,λt hx=>?_⟩,h⟩
   ·have:=n2 t hx;unfold uh at this;simp only [Bool.and_eq_true,decide_eq_true_eq] at this;obtain ⟨⟨_,h9,h10⟩,h11⟩:=this;refine ⟨⟨J,J⟩,?_⟩;split at h11
    ·rw [decide_eq_true_eq] at h11;omega
    ·rw [Bool.and_eq_true] at h11;exact (eB h11.2).1
   ·have:=t2 t hx;unfold Q5 at this;exact sA
 ·show _ = dB (Bg v);unfold Bg;rw [if_pos hv.2];exact Mk
def Gk (hs:List az) (nm:ByteArray):Prop:=nm = ⟨#[]⟩∨∃h∈hs,h.name = nm
structure Names (hs:List az):Prop where
 ne:∀h∈hs,h.name≠⟨#[]⟩
 pw:hs.Pairwise λa b=>a.name≠b.name
omit hs
theorem aCM {hs:List az} (U:Names hs) {j:Nat} (hj:j < hs.length):pK (iM hs[j].name) hs = j:=by
 have h0:0<=pK (iM hs[j].name) hs:=PM.2 ⟨_,List.getElem_mem hj,EX.2 rfl⟩;obtain ⟨h1,h2,h3⟩:=PN (PP h0);rw [EX] at h2;rw [PP h0];by_cases he:(pK (iM hs[j].name) hs).toNat = j
 ·rw [he]
 ·exfalso;rcases Nat.lt_or_gt_of_ne he with h4 | h4
  ·exact List.pairwise_iff_getElem.1 U.pw _ _ h1 hj h4 h2
  ·exact List.pairwise_iff_getElem.1 U.pw _ _ hj h1 h4 h2.symm
theorem aAb {hs:List az} (U:Names hs):pK (iM ⟨#[]⟩) hs = -1 :=
 F5 λy hy=>by
  cases he:iM ⟨#[]⟩ y with
  | false=>rfl
  | true=>exact absurd (EX.1 he) (U.ne y hy)
def Vg (hs:List az) (p:ag):List UInt8:=PT p.aS++(VT (1+pK (iM p.on) hs)++VT p.seq)
include hs
theorem aCN {hl:List az} (U:Names hl) (hn:hl.length<=8):dT s (JF s hl) (Vg hl) (λp=>Rl p.aS/\Gk hl p.on/\gl p.seq):=by
 have h1:=(axH s hl.length).pair (λ_ _=>nJ s) (λ_ a ha=>Y0 ha);have h0:=(aCL s hs).pair (λ_ _=>h1) (λ_ a ha=>Y0 (by rw [MH J ha];decide));refine dT.map (f:=λp:nI × Int × Int=>(⟨p.1,Bl hl p.2.1,p.2.2⟩:ag)) (λp=>(p.aS,1+pK (iM p.on) hl,p.seq)) (λp=>Rl p.aS/\Gk hl p.on/\gl p.seq) h0 (λx h=>?_) (λv h=>?_)
 ·obtain ⟨p,on,q⟩:=x;obtain ⟨h1,h2,h3⟩:=h;dsimp only at h1 h2 h3 |-;rcases h2 with rfl | ⟨g,hg,rfl⟩
  ·rw [aAb U];exact ⟨⟨h1,⟨⟨show (0:Int)<=1+-1 by decide,show (1+-1:Int)<=9223372036854775807 by decide⟩,show (1+-1:Int)<=hl.length by omega⟩,h3⟩,by rw [ZV (by decide)]⟩
  ·obtain ⟨j,hj,rfl⟩:=List.getElem_of_mem hg;rw [aCM U hj];exact ⟨⟨h1,⟨⟨show (0:Int)<=1+j by omega,show (1+j:Int)<=9223372036854775807 by omega⟩,show (1+j:Int)<=hl.length by omega⟩,h3⟩,by rw [Vc hj J]⟩
 ·obtain ⟨p,k,q⟩:=v;obtain ⟨h1,⟨⟨h2,_⟩,h4⟩,h3⟩:=h;dsimp only at h1 h2 h3 h4 |-;by_cases hk:0 < k
  ·obtain ⟨j,rfl⟩:∃j:Nat,k = (j:Int)+1:=⟨(k - 1).toNat,J⟩;have hj:j < hl.length:=J;rw [Vc hj rfl,aCM U hj];exact ⟨⟨h1,.inr ⟨_,List.getElem_mem hj,rfl⟩,h3⟩,by rw [Int.add_comm]⟩
  ·obtain rfl:k = 0:=by omega
   rw [ZV (by decide),aAb U];exact ⟨⟨h1,.inl rfl,h3⟩,rfl⟩
def CT (x:aU):List UInt8:=VT x.weights.pack++(VT x.weights.spread++(VT x.weights.soft++(VT x.next++(VT x.aa.length++x.aa.flatMap HT))))++(VT x.O.length++x.O.flatMap (Vg x.aa))
def Rm (x:aU):Prop:=(gl x.weights.pack/\gl x.weights.spread/\gl x.weights.soft/\gl x.next/\(x.aa.length:Int)<=8/\∀h∈x.aa,azJ h)/\(x.O.length:Int)<=12/\∀p∈x.O,Rl p.aS/\Gk x.aa p.on/\gl p.seq
theorem aCO {x:aU} (U:Names x.aa) (b:Int):(RQ s = (x,b)/\0<=b)↔(Rm x/\kC s 0 (CT x)/\b = 0+(CT x).length):=by
 have nH:∀a,a < 0->(xC (Ad s) s 8 a).2 < 0:=λa ha=>UL (λa ha=>aqf ha) (by decide) ha;have h4:=(nJ s).pair (λ_ _=>dT.oR (aA5 s hs) (λa ha=>aqf ha) 8 (by decide)) (λ_ a ha=>nH a ha);have h3:=(nJ s).pair (λ_ _=>h4) (λ_ a ha=>nH _ (Y0 ha));have h2:=(nJ s).pair (λ_ _=>h3) (λ_ a ha=>nH _ (Y0 (Y0 ha)));have h1:=(nJ s).pair (λ_ _=>h2) (λ_ a ha=>nH _ (Y0 (Y0 (Y0 ha))))
 have hp:=h1.aD1 (q:=λv:Int × Int × Int × Int × List az=>xC (JF s v.2.2.2.2) s 12) (x.weights.pack,x.weights.spread,x.weights.soft,x.next,x.aa)
  (λho=>dT.oR (aCN s hs U (by have h8:(x.aa.length:Int)<=8:=ho.2.2.2.2.1;omega)) (λa ha=>Ve ha) 12 (by decide)) (λv a ha=>UL (λa ha=>Ve ha) (by decide) ha) (Int.le_refl 0) x.O b
 constructor
 ·rintro ⟨e,hb⟩;refine hp.1 ⟨?_,hb⟩;have e1:(RQ s).1 = x:=by rw [e]
  have e2:(RQ s).2 = b:=by rw [e]
  rw [<- e2,<- e1];rfl
 ·intro h;obtain ⟨e,hb⟩:=hp.2 h;refine ⟨?_,hb⟩;simp only [Prod.mk.injEq] at e;obtain ⟨⟨⟨a1,a2,a3,a4,a5⟩,a6⟩,a7⟩:=e;obtain ⟨xh,xp,xn,⟨xa,xb,xc⟩⟩:=x;dsimp only at a1 a2 a3 a4 a5 a6 a7;subst a1 a2 a3 a4 a5 a6 a7;rfl
end
theorem apz (s:ByteArray) (b:Nat) (a:Int) (w:World) (h:zk w b s a) (hs:(s.size:Int)<=1048576) :
 Calls Tryz.prog 35 #[.pointer (some ⟨b,0,none⟩)] w λe w'=>∃ds F,e = .returned (.agg ds.toArray)/\ai w' w.heap.size (Dl s a).1 ds F/\zk w' b s (Dl s a).2/\nN [b] w w':=by
 have am:=h.lt;have H:=I h;clear h;obtain ⟨t1,et1⟩:∃t,dP s a = t:=⟨_,rfl⟩;obtain ⟨L,eL⟩:∃t,iF s t1.2 = t:=⟨_,rfl⟩;obtain ⟨c,ec⟩:∃t,fG s L.2 = t:=⟨_,rfl⟩;obtain ⟨m,em⟩:∃t,fG s c.2 = t:=⟨_,rfl⟩;obtain ⟨o,eo⟩:∃t,fG s m.2 = t:=⟨_,rfl⟩;obtain ⟨q,eq⟩:∃t,jC s 4 o.2 = t:=⟨_,rfl⟩;obtain ⟨⟨R1,R2⟩,eR⟩:∃t,qX (JB s) q.1.toNat [] q.2 = t:=⟨_,rfl⟩;obtain ⟨q2,eq2⟩:∃t,jC s 4 R2 = t:=⟨_,rfl⟩;obtain ⟨⟨T1,T2⟩,eT⟩:∃t,qX (Zf s) q2.1.toNat [] q2.2 = t:=⟨_,rfl⟩
 have mb:=I (show Ag s a = (⟨t1.1,L.1,c.1,m.1,o.1,R1,T1⟩,T2) by
  unfold Ag Ll xC;rw [et1,eL,ec,em,eo,eq,eR];dsimp only
  rw [eq2,eT])
 have HH:=I (show Dl s a = ((Ag s a).1,if GU (Ag s a).1 = true then (Ag s a).2 else -1) from rfl);have HT:=I (λwq hq=>CW s b a wq hq hs);have HL:=I (λwq hq=>aaT s b t1.2 wq hq hs);have HC:=I (λwq hq=>FT s b L.2 wq hq hs);have HM:=I (λwq hq=>FT s b c.2 wq hq hs);have HO:=I (λwq hq=>FT s b m.2 wq hq hs);have HN:=I (λwq hq=>cI s b o.2 4 wq hq hs (by decide));have Gn:=I (λwq hq=>cI s b R2 4 wq hq hs (by decide));rw [et1] at HT;rw [eL] at HL;rw [ec] at HC;rw [em] at HM;rw [eo] at HO;rw [eq] at HN;rw [eq2] at Gn;have dr:(t1.1.size:Int)<=1048576:=et1 ▸ qR s a hs;have qg:L.1.length<=6:=eL ▸ Kw s t1.2;have cP:=I (show ∀l∈L.1,(l.key.size:Int)<=1048576/\(l.value.size:Int)<=1048576 from eL ▸ NM s t1.2 hs);have ee:aR c.1:=ec ▸ yt s L.2 hs;have Mb:aR m.1:=em ▸ yt s c.2 hs;have Me:aR o.1:=eo ▸ yt s m.2 hs;have oT:0<=q.1/\q.1<=4:=eq ▸ vI s 4 o.2 (by decide);have oW:0<=q2.1/\q2.1<=4:=eq2 ▸ vI s 4 R2 (by decide)
 have HSN:=I (show ∀l∈R1,VX l by
  have h:=II (λa=>adT s a hs) q.1.toNat [] q.2 (λl hl=>by cases hl)
  rw [eR] at h;exact h)
 have HST:=I (show ∀l∈T1,VY l by
  have h:=II (λa=>ahf s a hs) q2.1.toNat [] q2.2 (λl hl=>by cases hl)
  rw [eT] at h;exact h)
 obtain ⟨N,hN⟩:∃N:Nat,q.1 = N:=⟨q.1.toNat,J⟩;rw [hN,Int.toNat_natCast] at eR;obtain ⟨N2,BI⟩:∃N:Nat,q2.1 = N:=⟨q2.1.toNat,J⟩;rw [BI,Int.toNat_natCast] at eT;have nz:=I eR;have vA:=I eT;have GG:N<=4:=by omega
 have zf:N2<=4:=by omega
 have MO:=I hN;have zg:=I BI;generalize Ag s a = HW at HH mb;clear et1 eL ec em eo eq eR eq2 eT hN BI oT oW;go_enter Tryz.func35,Tryz.ntmps35;go_wp2_with fail
 refine (HT.out _ (H.out.ext (ak (aj _) _))).mono ?_;rintro e w1 ⟨rfl,fY,hu1⟩;have cG:w.heap.size < w1.heap.size:=by have:=hu1.size;simp at this;omega
 have uk:=(oG.new w [.string ⟨#[]⟩,.slice none 0 0,.int .i64 0,.int .i64 0,.int .i64 0,.slice none 0 0,.slice none 0 0] 46).bE hu1 J;have GH:nN [b] w w1:=((nN.refl _ _).alloc _).trans hu1
 have S1:St [.string ⟨#[]⟩,.slice none 0 0,.int .i64 0,.int .i64 0,.int .i64 0,.slice none 0 0,.slice none 0 0] w (w1.alloc (.cells #[.string t1.1,.slice none 0 0,.int .i64 0,.int .i64 0,.int .i64 0,.slice none 0 0,.slice none 0 0] 46)) b w1.heap.size s t1.2 [.string t1.1,.slice none 0 0,.int .i64 0,.int .i64 0,.int .i64 0,.slice none 0 0,.slice none 0 0] :=
  ⟨fY.ext (ak (aj _) _),GH.alloc _,oG.new w1 [.string t1.1,.slice none 0 0,.int .i64 0,.int .i64 0,.int .i64 0,.slice none 0 0,.slice none 0 0] 46,uk.ext (ak (aj _) _),am,cG⟩
 clear fY hu1 uk;go_wp2_with fail
 refine (HL.out _ S1.bp).mono ?_;rintro e w2 ⟨A2,c2,G2,rfl,bA,dj,ca⟩;have S2:=S1.call dj ca;clear dj;replace bA:ai w2 (w1.heap.size+1) L.1 [.slice A2 L.1.length c2] G2:=bA.mono S';have uO:=bA.base;have k2:=S2.box.cell (i:=1) (u:=.slice none 0 0) rfl;have f2:=S2.box.fz 1;have l2:=S2.box.lt;have GM:=S2.put 1 (.slice A2 L.1.length c2);have O2:=bA.setCell (p:=⟨w1.heap.size,1,none⟩) kI (.slice A2 L.1.length c2);go_wp2_with fail
 refine (HC.out _ GM.bp).mono ?_;rintro e w3 ⟨rfl,TR,bJ⟩;have S3:=GM.call TR bJ;have O3:=bJ.own O2 (λy hy hb=>by have:=uO y hy;simp only [List.mem_singleton] at hb;omega);have k3:=S3.box.cell (i:=2) (u:=.int .i64 0) rfl;have f3:=S3.box.fz 2;have l3:=S3.box.lt;have GO:=S3.put 2 (.int .i64 c.1);have P3:=O3.setCell (p:=⟨w1.heap.size,2,none⟩) kI (.int .i64 c.1);go_wp2_with fail
 refine (HM.out _ GO.bp).mono ?_;rintro e w4 ⟨rfl,hI4,Td⟩;have S4:=GO.call hI4 Td;have O4:=Td.own P3 (λy hy hb=>by have:=uO y hy;simp only [List.mem_singleton] at hb;omega);have k4:=S4.box.cell (i:=3) (u:=.int .i64 0) rfl;have f4:=S4.box.fz 3;have l4:=S4.box.lt;have GP:=S4.put 3 (.int .i64 m.1);have P4:=O4.setCell (p:=⟨w1.heap.size,3,none⟩) kI (.int .i64 m.1);go_wp2_with fail
 refine (HO.out _ GP.bp).mono ?_;rintro e w5 ⟨rfl,lr,hu5⟩;have S5:=GP.call lr hu5;have O5:=hu5.own P4 (λy hy hb=>by have:=uO y hy;simp only [List.mem_singleton] at hb;omega);have k5:=S5.box.cell (i:=4) (u:=.int .i64 0) rfl;have f5:=S5.box.fz 4;have l5:=S5.box.lt;have GQ:=S5.put 4 (.int .i64 o.1);have P5:=O5.setCell (p:=⟨w1.heap.size,4,none⟩) kI (.int .i64 o.1);go_wp2_with fail
 refine (HN.out _ GQ.bp).mono ?_;rw [MO.out];rintro e w6 ⟨rfl,hI6,Ze⟩;have S6:=GQ.call hI6 Ze;have O6:=Ze.own P5 (λy hy hb=>by have:=uO y hy;simp only [List.mem_singleton] at hb;omega);have Iw:=O6.lt;obtain ⟨B3,cT⟩:∃B3,w6.heap.size = B3:=⟨_,rfl⟩;have lh:w1.heap.size < B3:=by rw [<- cT];exact S6.box.lt
 rw [cT] at Iw;have ma:w6.ownsRow B3 89 3 (.slice none 0 0) 0 []:=⟨rfl,.inl ⟨rfl,rfl⟩⟩;have lE:=I cT;have yL:=I O6;have ce:b < B3:=by omega
 clear cT O6 S1 S2 S3 S4 S5 GM GO GP GQ bA O2 O3 P3 O4 P4 O5 P5 TR bJ hI4 Td lr hu5 hI6 Ze ca k2 f2 l2 k3 f3 l3 k4 f4 l4 k5 f5 l5;go_wp2_with fail
 go_loopw [4] (λn wr=>∃(k:Nat) (xs:List aE) (ds:List Value) (F:List Nat) (a':Int) (v:Value),n = .int .i64 k/\xs.length+k<=4/\Hid (qX (JB s) k xs a' = (R1,R2))/\wr.ownsRow B3 89 3 v xs.length ds/\aY wr B3 xs ds F/\(∀g,v.ownBlock = some g->g∉F)/\St [.string ⟨#[]⟩,.slice none 0 0,.int .i64 0,.int .i64 0,.int .i64 0,.slice none 0 0,.slice none 0 0] w wr b w1.heap.size s a' [.string t1.1,.slice A2 L.1.length c2,.int .i64 c.1,.int .i64 m.1,.int .i64 o.1,v,.slice none 0 0]/\nN [b,w1.heap.size] w6 wr/\B3<=wr.heap.size) (λn _=>(intOf n).toNat)
 case atStart=>exact ⟨N,[],[],[],q.2,.slice none 0 0,rfl,by simpa using GG,nz.out,ma,aY.nil _ _,(λg hg=>by simp),S6,nN.refl _ _,by have:=lE.out;omega⟩
 case round =>
  obtain ⟨k,xs,ds,F,a',v,rfl,hk4,QY,ar,bS,bN,hS,hU,bu⟩:=hrel;cases k with
  | zero =>
    have bI:=QY.out;rw [qX] at bI;obtain ⟨rfl,rfl⟩:xs = R1/\a' = R2:=Prod.mk.inj bI;clear bI;obtain ⟨A6,c6,G6,hv6,nU⟩:=ai.oJ ar bS bN;subst hv6;have rc:=hU.own yL.out (λy hy hb=>by have:=uO y hy;simp only [List.mem_cons,List.not_mem_nil,or_false] at hb;omega);obtain ⟨wo,hwo⟩:∃wo,wo = wr:=⟨_,rfl⟩;subst hwo;clear ar bS bN hU yL;go_wp2_with fail
    refine (Gn.out _ hS.bp).mono ?_;rw [zg.out];rintro e px ⟨rfl,amM,Yh⟩;have RC:=hS.call amM Yh;have SA:=I (Yh.own rc (λy hy hb=>by have:=uO y hy;simp only [List.mem_singleton] at hb;omega));have si:=I (Yh.own nU (λy hy hb=>by have:=nU.base y hy;simp only [List.mem_singleton] at hb;omega));have al0:wo.heap.size<=px.heap.size:=Yh.size;obtain ⟨B7,WE⟩:∃B7,px.heap.size = B7:=⟨_,rfl⟩;have uo:px.ownsRow B7 91 4 (.slice none 0 0) 0 []:=⟨rfl,.inl ⟨rfl,rfl⟩⟩;have RE:B3<=B7:=J;have va:=I WE;have Ua:w1.heap.size < B7:=J;clear WE rc nU amM Yh hS;go_wp2_with fail
    go_loopw [7] (λn wr=>∃(k:Nat) (ys:List bH) (ds:List Value) (a3:Int) (v:Value),n = .int .i64 k/\ys.length+k<=4/\Hid (qX (Zf s) k ys a3 = (T1,T2))/\wr.ownsRow B7 91 4 v ys.length ds/\aY wr B7 ys ds []/\St [.string ⟨#[]⟩,.slice none 0 0,.int .i64 0,.int .i64 0,.int .i64 0,.slice none 0 0,.slice none 0 0] w wr b w1.heap.size s a3 [.string t1.1,.slice A2 L.1.length c2,.int .i64 c.1,.int .i64 m.1,.int .i64 o.1,.slice A6 xs.length c6,v]/\nN [b,w1.heap.size] px wr/\B7<=wr.heap.size) (λn _=>(intOf n).toNat)
    case atStart=>exact ⟨N2,[],[],q2.2,.slice none 0 0,rfl,by simpa using zf,vA.out,uo,aY.nil _ _,RC,nN.refl _ _,by have:=va.out;omega⟩
    case round =>
     obtain ⟨k,ys,ds,a3,v,rfl,hk4,QY,ar,bS,hS,hU,bu⟩:=hrel;cases k with
     | zero =>
       have bI:=QY.out;rw [qX] at bI;obtain ⟨rfl,rfl⟩:ys = T1/\a3 = T2:=Prod.mk.inj bI;clear bI;obtain ⟨A8,c8,G8,hv8,hOT⟩:=ai.oJ ar bS (λ_ _ hb=>by cases hb);subst hv8;have rc:=hU.own SA.out (λy hy hb=>by have:=uO y hy;simp only [List.mem_cons,List.not_mem_nil,or_false] at hb;omega);have nU:=hU.own si.out (λy hy hb=>by have:=si.out.base y hy;simp only [List.mem_cons,List.not_mem_nil,or_false] at hb;omega);have Zm:ai wr (w1.heap.size+1) (⟨t1.1,L.1,c.1,m.1,o.1,xs,ys⟩:nI) [.string t1.1,.slice A2 L.1.length c2,.int .i64 c.1,.int .i64 m.1,.int .i64 o.1,.slice A6 xs.length c6,.slice A8 ys.length c8] (G2++(G6++G8)):=by exact Ky
       obtain ⟨k0,k1,k2,k3,k4,k5,k6⟩:=nv hS.box;have kl:=hS.box.lt;have qz:=I Zm;have HS:=I hS;clear Zm hOT rc nU ar bS hS hU;have dq:(L.1.length:Int)<=1048576:=J;have mW:(xs.length:Int)<=1048576:=J;have fu:(ys.length:Int)<=1048576:=J;go_wp2_with fail
       refine (vw (⟨t1.1,L.1,c.1,m.1,o.1,xs,ys⟩:nI) _ _ _ qz.out.rd dr dq cP.out mW HSN.out fu HST.out).mono ?_;rintro e w27 ⟨rfl,hb27⟩;go_wp2_with fail
       refine (UG s b a3 _ _ (HS.out.bp.ext hb27)).mono ?_;rintro e w28 ⟨rfl,hI28,hu28⟩;have GS:=(HS.out.ext hb27).call hI28 hu28;obtain ⟨j0,j1,j2,j3,j4,j5,j6⟩:=nv GS.box;have jl:=GS.box.lt;obtain ⟨r0,r1,r2,r3,r4,r5,r6⟩:=nv GS.rb;have rl:=GS.rb.lt;have rf:=GS.rb.fz;have RK:=hu28.own (qz.out.ext hb27) (λy hy hb=>by have:=qz.out.base y hy;simp only [List.mem_singleton] at hb;omega);have HF:=I (show Dl s a = ((⟨t1.1,L.1,c.1,m.1,o.1,xs,ys⟩:nI),if GU (⟨t1.1,L.1,c.1,m.1,o.1,xs,ys⟩:nI) = true then a3 else -1) by rw [HH.out,mb.out]);have Cg:=I GS;have SF:=I RK;clear k0 k1 k2 k3 k4 k5 k6 GS RK hI28 hu28;go_wp2;refine bodyPost_ret (v:=.agg #[.string t1.1,.slice A2 L.1.length c2,.int .i64 c.1,.int .i64 m.1,.int .i64 o.1,.slice A6 xs.length c6,.slice A8 ys.length c8]) (by simp [results,Tryz.results35,go_sem, *]) rfl ?_;rw [HF.out]
       first
        | refine ⟨[.string t1.1,.slice A2 L.1.length c2,.int .i64 c.1,.int .i64 m.1,.int .i64 o.1,.slice A6 xs.length c6,.slice A8 ys.length c8],(G2++(G6++G8)),rfl,?_,?_,?_⟩
        | refine ⟨[.string t1.1,.slice A2 L.1.length c2,.int .i64 c.1,.int .i64 m.1,.int .i64 o.1,.slice A6 xs.length c6,.slice A8 ys.length c8],rfl,⟨(G2++(G6++G8)),?_⟩,?_,?_⟩
       ·exact xe
       ·exact (by repeat (first | with_reducible exact Cg.out.bp | with_reducible refine zk.br ?_ J _ _))
       ·exact SZ
     | succ k =>
       have bI:=QY.out;rw [qX] at bI;have gC:=I bI;clear bI;obtain ⟨y1,ey1⟩:∃t,dP s a3 = t:=⟨_,rfl⟩;obtain ⟨y2,ey2⟩:∃t,jC s 1 y1.2 = t:=⟨_,rfl⟩;obtain ⟨y3,ey3⟩:∃t,dP s y2.2 = t:=⟨_,rfl⟩;obtain ⟨y4,ey4⟩:∃t,fG s y3.2 = t:=⟨_,rfl⟩
       have HE:=I (show Zf s a3 = (⟨y1.1,y2.1 == 1,y3.1,y4.1⟩,y4.2) by
        unfold Zf
        rw [ey1,ey2,ey3,ey4])
       have gH:=I (λwq hq=>CW s b a3 wq hq hs);have gL:=I (λwq hq=>cI s b y1.2 1 wq hq hs (by decide));have ja:=I (λwq hq=>CW s b y2.2 wq hq hs);have py:=I (λwq hq=>FT s b y3.2 wq hq hs);rw [ey1] at gH;rw [ey2] at gL;rw [ey3] at ja;rw [ey4] at py;have ym:(y1.1.size:Int)<=1048576:=ey1 ▸ qR s a3 hs;have zv:(y3.1.size:Int)<=1048576:=ey3 ▸ qR s y2.2 hs;have vQ:aR y4.1:=ey4 ▸ yt s y3.2 hs;clear ey1 ey2 ey3 ey4;obtain ⟨wo,hwo⟩:∃wo,wo = wr:=⟨_,rfl⟩;subst hwo;go_wp2_with fail
       refine (gH.out _ hS.bp).mono ?_;rintro e w7 ⟨rfl,hI7,WL⟩;have S7:=(hS.call hI7 WL).alloc (.cells ([.string y1.1,.bool false,.string ⟨#[]⟩,.int .i64 0]:List Value).toArray 91);have U7:nN [b] wo (w7.alloc (.cells ([.string y1.1,.bool false,.string ⟨#[]⟩,.int .i64 0]:List Value).toArray 91)):=WL.alloc _;have z7:wo.heap.size<=w7.heap.size:=WL.size;go_wp2_with fail
       refine (gL.out _ S7.bp).mono ?_;rintro e w8 ⟨rfl,hI8,Ub⟩;have X8:=(oG.new w7 [.string y1.1,.bool false,.string ⟨#[]⟩,.int .i64 0] 91).bE Ub J;have S8:=(S7.call hI8 Ub).br (c:=w7.heap.size) J 1 (.bool (y2.1 == 1));have U8:=(U7.trans Ub).xZ (p:=⟨w7.heap.size,1,none⟩) bv (.bool (y2.1 == 1));have k8:=X8.cell (i:=1) (u:=.bool false) rfl;have f8:=X8.fz 1;have l8:=X8.lt;have Y8:=X8.put 1 (.bool (y2.1 == 1));go_wp2_with fail
       refine (ja.out _ S8.bp).mono ?_;rintro e w9 ⟨rfl,hI9,Xb⟩;have X9:=Y8.bE Xb J;have S9:=(S8.call hI9 Xb).br (c:=w7.heap.size) J 2 (.string y3.1);have U9:=(U8.trans Xb).xZ (p:=⟨w7.heap.size,2,none⟩) bv (.string y3.1);have k9:=X9.cell (i:=2) (u:=.string ⟨#[]⟩) rfl;have f9:=X9.fz 2;have l9:=X9.lt;have Y9:=X9.put 2 (.string y3.1);go_wp2_with fail
       refine (py.out _ S9.bp).mono ?_;rintro e cB ⟨rfl,Lm,vM⟩;have gS:=Y9.bE vM J;have BZ:=(S9.call Lm vM).br (c:=w7.heap.size) J 3 (.int .i64 y4.1);have jN:=(U9.trans vM).xZ (p:=⟨w7.heap.size,3,none⟩) bv (.int .i64 y4.1);have k10:=gS.cell (i:=3) (u:=.int .i64 0) rfl;have f10:=gS.fz 3;have l10:=gS.lt;have Bn:=gS.put 3 (.int .i64 y4.1);have ev:=rQ ar jN (by omega:b < B7);have zO:wo.heap.size<=(cB.setCell ⟨w7.heap.size,3,none⟩ (.int .i64 y4.1)).heap.size:=jN.size;have my:B7<=(cB.setCell ⟨w7.heap.size,3,none⟩ (.int .i64 y4.1)).heap.size:=Nat.le_trans bu jN.size;have gF:ys.length<=4:=J;have kb:=BZ.box.cell (i:=6) (u:=v) rfl;have lb:=BZ.box.lt;obtain ⟨x0,x1,x2,x3⟩:=Xo Bn;have Si:=I BZ;have zD:=I (hU.trans (jN.mono (G:=[b,w1.heap.size]) (λy hy=>by simp only [List.mem_singleton] at hy;subst hy;simp)));clear hS ar hU S7 S8 S9 BZ U7 U8 U9 jN X8 Y8 X9 Y9 gS Bn hI7 WL hI8 Ub hI9 Xb Lm vM k8 f8 k9 f9
       go_wp2_with (
        at_builtin
        go_must (refine lC aoI J' _ _ J' _ _ _ _ _ ev J' [.string y1.1,.bool (y2.1 == 1),.string y3.1,.int .i64 y4.1] gn J' dv J J my ?_)
        intro v6 jb zl IJ Jp;go_must (obtain ⟨A7,c7,hv6⟩:=rE zl)
        go_must (subst hv6)
        go_must (have QZ:=Si.out.grown IJ (λq hq=>by have:=(ev.lt q hq).1;omega))
        go_must (have ur:=QZ.box.cell (i:=6) (u:=v) rfl)
        go_must (have ut:=QZ.box.fz 6)
        go_must (have uu:=QZ.box.lt))
       have cU:=gC.out;rw [HE.out] at cU;have CR:=(zD.out.grown IJ (λq hq=>by have:=(ev.lt q hq).1;have:=va.out;omega)).setCell (p:=⟨w1.heap.size,6,none⟩) S' (.slice A7 (ys.length+1) c7);have mF:=xw (c:=w1.heap.size) (i:=6) (u:=.slice A7 (ys.length+1) c7) zl (λg hg=>by have:=(zl.lt g hg).1;omega);refine ⟨⟨k,ys++[⟨y1.1,y2.1 == 1,y3.1,y4.1⟩],_,y4.2,.slice A7 (ys.length+1) c7,N',by simp;omega,I cU,CU,SX bS awU (Ov _ _ awV awW vQ),QZ.put 6 (.slice A7 (ys.length+1) c7),CR,by have:=IJ.size;simp only [World.setCell,Array.size_modify] at *;omega⟩,by simp [intOf]⟩
  | succ k =>
    have bI:=QY.out;rw [qX] at bI;have gC:=I bI;clear bI;obtain ⟨y1,ey1⟩:∃t,dP s a' = t:=⟨_,rfl⟩;obtain ⟨y2,ey2⟩:∃t,fG s y1.2 = t:=⟨_,rfl⟩;obtain ⟨q3,eq3⟩:∃t,jC s 4 y2.2 = t:=⟨_,rfl⟩;obtain ⟨⟨V1,V2⟩,eV⟩:∃t,qX (dP s) q3.1.toNat [] q3.2 = t:=⟨_,rfl⟩
    have HE:=I (show JB s a' = (⟨y1.1,y2.1,(V1,V2).1⟩,(V1,V2).2) by
     unfold JB xC
     rw [ey1,ey2,eq3,eV])
    have gH:=I (λwq hq=>CW s b a' wq hq hs);have gL:=I (λwq hq=>FT s b y1.2 wq hq hs);have ja:=I (λwq hq=>cI s b y2.2 4 wq hq hs (by decide));rw [ey1] at gH;rw [ey2] at gL;rw [eq3] at ja;have ym:(y1.1.size:Int)<=1048576:=ey1 ▸ qR s a' hs;have Sq:aR y2.1:=ey2 ▸ yt s y1.2 hs;have GV:0<=q3.1/\q3.1<=4:=eq3 ▸ vI s 4 y2.2 (by decide);obtain ⟨M,hM⟩:∃M:Nat,q3.1 = M:=⟨q3.1.toNat,J⟩;rw [hM,Int.toNat_natCast] at eV;have Pq:=I eV;have hM4:M<=4:=J;have HMM:=I hM;clear ey1 ey2 eq3 eV hM GV;obtain ⟨wo,hwo⟩:∃wo,wo = wr:=⟨_,rfl⟩;subst hwo;go_wp2_with fail
    refine (gH.out _ hS.bp).mono ?_;rintro e w7 ⟨rfl,hI7,WL⟩;have S7:=(hS.call hI7 WL).alloc (.cells ([.string y1.1,.int .i64 0,.slice none 0 0]:List Value).toArray 89);have U7:nN [b] wo (w7.alloc (.cells ([.string y1.1,.int .i64 0,.slice none 0 0]:List Value).toArray 89)):=WL.alloc _;have z7:wo.heap.size<=w7.heap.size:=WL.size;go_wp2_with fail
    refine (gL.out _ S7.bp).mono ?_;rintro e w8 ⟨rfl,hI8,Ub⟩;have X8:=(oG.new w7 [.string y1.1,.int .i64 0,.slice none 0 0] 89).bE Ub J;have S8:=(S7.call hI8 Ub).br (c:=w7.heap.size) J 1 (.int .i64 y2.1);have U8:=(U7.trans Ub).xZ (p:=⟨w7.heap.size,1,none⟩) bv (.int .i64 y2.1);have k8:=X8.cell (i:=1) (u:=.int .i64 0) rfl;have f8:=X8.fz 1;have l8:=X8.lt;have Y8:=X8.put 1 (.int .i64 y2.1);go_wp2_with fail
    refine (ja.out _ S8.bp).mono ?_;rw [HMM.out];rintro e w9 ⟨rfl,hI9,Xb⟩;have X9:=Y8.bE Xb J;have S9:=S8.call hI9 Xb;have U9:=U8.trans Xb;obtain ⟨B5,Dc⟩:∃B5,w9.heap.size = B5:=⟨_,rfl⟩;have aaA:w7.heap.size < B5:=(by rw [<- Dc];exact X9.lt);have hr9:w9.ownsRow B5 9 1 (.slice none 0 0) 0 []:=⟨rfl,.inl ⟨rfl,rfl⟩⟩;have Bk:=I Dc;clear Dc hS S7 S8 U7 U8 X8 Y8 hI7 WL hI8 Ub hI9 Xb k8 f8 l8;go_wp2_with fail
    go_loopw [6] (λn2 wr=>∃(k2:Nat) (vs:List ByteArray) (es:List Value) (a2:Int) (v2:Value),n2 = .int .i64 k2/\vs.length+k2<=4/\Hid (qX (dP s) k2 vs a2 = (V1,V2))/\wr.ownsRow B5 9 1 v2 vs.length es/\aY wr B5 vs es []/\St [.string ⟨#[]⟩,.slice none 0 0,.int .i64 0,.int .i64 0,.int .i64 0,.slice none 0 0,.slice none 0 0] w wr b w1.heap.size s a2 [.string t1.1,.slice A2 L.1.length c2,.int .i64 c.1,.int .i64 m.1,.int .i64 o.1,v,.slice none 0 0]/\oG wr w7.heap.size [.string y1.1,.int .i64 y2.1,v2]/\nN [b] wo wr/\B5<=wr.heap.size) (λn2 _=>(intOf n2).toNat)
    case atStart=>exact ⟨M,[],[],q3.2,.slice none 0 0,rfl,by simpa using hM4,Pq.out,hr9,aY.nil _ _,S9,X9,U9,by have:=Bk.out;omega⟩
    case round =>
     obtain ⟨k2,vs,es,a2,v2,rfl,Im,HLV,bR,fw,hS,hX,l6,hBr2⟩:=hrel;cases k2 with
     | zero =>
       have bI:=HLV.out;rw [qX] at bI;obtain ⟨rfl,rfl⟩:vs = V1/\a2 = V2:=Prod.mk.inj bI;clear bI;obtain ⟨A9,c9,G9,dt,hOV⟩:=ai.oJ bR fw (λ_ _ hb=>by cases hb);subst dt
       have si:=I (show ai wr B5 (⟨y1.1,y2.1,vs⟩:aE) [.string y1.1,.int .i64 y2.1,.slice A9 vs.length c9] G9 by
        refine ai.up (B':=B5) (λx:aE=>(x.key,x.op,x.values)) ?_ (Nat.le_refl _);refine ai.cons (c1:=[.string y1.1]) (rdStr _ y1.1 J) ?_;refine ai.cons (c1:=[.int .i64 y2.1]) (jL _ y2.1 Sq) ?_
        exact hOV)
       have rN:=rQ ar l6 ce;have pI:=I ar;have VK:=I (bS.bE l6 ce);have CS:=I (hU.trans (l6.mono (G:=[b,w1.heap.size]) (λy hy=>by simp only [List.mem_singleton] at hy;subst hy;simp)));have zN:B3<=wr.heap.size:=J;have kb:=hS.box.cell (i:=5) (u:=v) rfl;have lb:=hS.box.lt;obtain ⟨x0,x1,x2⟩:=OS hX;have xl:=hX.lt;have gF:xs.length<=4:=J;have Bm:=I hS;clear hS hX hOV ar bR fw l6
       go_wp2_with (
        at_builtin
        go_must (refine uf ak8 J' _ _ J' _ _ _ _ _ rN J' [.string y1.1,.int .i64 y2.1,.slice A9 vs.length c9] gn J' dv J J zN ?_)
        intro v6 jb zl IJ Jp Ij;go_must (obtain ⟨A7,c7,hv6⟩:=rE zl)
        go_must (subst hv6)
        go_must (have QZ:=Bm.out.grown IJ (λq hq=>by have:=(rN.lt q hq).1;omega))
        go_must (have ur:=QZ.box.cell (i:=5) (u:=v) rfl)
        go_must (have ut:=QZ.box.fz 5)
        go_must (have uu:=QZ.box.lt))
       have cU:=gC.out;rw [HE.out] at cU;obtain ⟨Fb,Jl⟩:=aY.Ii (v':=.slice A7 (xs.length+1) c7) rN VK.out bN si.out J (λg hg=>by have:=(pI.out.lt g hg).2;omega) (λy hy=>by have:=bS.lt y hy;omega) IJ Ij;have CR:=(CS.out.grown IJ (λq hq=>by have:=(rN.lt q hq).1;have:=lE.out;omega)).setCell (p:=⟨w1.heap.size,5,none⟩) S' (.slice A7 (xs.length+1) c7);have mF:=xw (c:=w1.heap.size) (i:=5) (u:=.slice A7 (xs.length+1) c7) zl (λg hg=>by have:=(zl.lt g hg).1;omega);refine ⟨⟨k,xs++[⟨y1.1,y2.1,vs⟩],_,_,_,.slice A7 (xs.length+1) c7,N',by simp;omega,I cU,CU,Fb.setCell (p:=⟨w1.heap.size,5,none⟩) kI _,Jl,QZ.put 5 (.slice A7 (xs.length+1) c7),CR,by have:=IJ.size;simp only [World.setCell,Array.size_modify] at *;omega⟩,by simp [intOf]⟩
     | succ k2 =>
       have bI:=HLV.out;rw [qX] at bI;have gN:=I bI;clear bI;have htv:=qR s a2 hs;have HTV:=I (λwq hq=>CW s b a2 wq hq hs);generalize dP s a2 = y3 at *;have gF:vs.length<=4:=J;obtain ⟨Av,cv,dt⟩:=rE bR;subst dt;have pu:nN [b] wr wr.drew:=nN.lq [b] (aA (aj wr));have gT:=hS.ext (aA (aj wr));have GW:=hX.ext (aA (aj wr));have Zl:=rQ bR pu (by omega:b < B5);have RL:=l6.trans pu;have zd:B5<=wr.drew.heap.size:=hBr2;have uv:aY wr.drew B5 vs es []:=fw.keep (λy hy=>by cases hy) (Nat.le_refl _);have x2:=GW.cell (i:=2) (u:=.slice Av vs.length cv) rfl;clear hS hX bR l6 hBr2 fw pu;go_wp2_with fail
       refine uq (λw'=>w'.cell? ⟨w7.heap.size,2,none⟩ = some (.slice Av vs.length cv)) [0,1,2] [3,4,5] [6,7] U' U' H' x2 ?_;generalize wr.drew = wd at *;simp only [pick,List.getElem?_cons_succ,List.getElem?_cons_zero]
       iterate 3
        (apply dR
         case hy =>exact pN
         simp only [Act.put,pz])
       refine fE ?_;refine iK rfl (λK hK=>?_);go_simp;refine (HTV.out _ gT.bp).mono ?_;rintro e cB ⟨rfl,Lm,vM⟩;have BZ:=gT.call Lm vM;have gS:=GW.bE vM J;have ev:=rQ Zl vM (by omega:b < B5);have jN:=RL.trans vM;have my:B5<=cB.heap.size:=Nat.le_trans zd vM.size;have aaB:wd.heap.size<=cB.heap.size:=vM.size;have x2':=gS.cell (i:=2) (u:=.slice Av vs.length cv) rfl;have x2a:=(oG.ext gS (ak (aj _) (.cells ([.string y3.1]:List Value).toArray 9))).cell (i:=2) (u:=.slice Av vs.length cv) rfl;refine hK _ _ x2' ?_;try simp only [Act.put,pz]
       clear hK K;refine iK rfl (λK hK=>?_);go_simp;refine hK _ _ x2a ?_;try simp only [Act.put,pz]
       clear hK K;have fw:=uv;have Si:=I BZ;have ux:=I gS;have zD:=I jN;clear gT BZ gS jN GW Zl Lm vM RL uv;refine iK rfl (λK hK=>?_);refine adV qw _ _ J' _ _ _ _ _ ev J' [.string y3.1] gn J' dv J J my ?_;intro v6 zu ug DV CO;obtain ⟨A7,c7,hv6⟩:=rE ug;subst hv6;have oX:=ux.out.keep (DV.block _ ux.out.lt (by intro e;have:=(ev.lt _ e.symm).1;omega));have kx:=oX.cell (i:=2) (u:=.slice Av vs.length cv) rfl;have fx:=oX.fz 2;have lx:=oX.lt;refine hK _ _ kx ?_;try simp only [Act.put,pz]
       clear hK K;refine yG ?_;go_wp2;have cU:=gN.out;have EW:=(Si.out.grown DV (λq hq=>by have:=(ev.lt q hq).1;omega)).br (c:=w7.heap.size) J 2 (.slice A7 (vs.length+1) c7);have U11:=(zD.out.grown DV (λq hq=>by have:=(ev.lt q hq).1;omega)).xZ (p:=⟨w7.heap.size,2,none⟩) bv (.slice A7 (vs.length+1) c7);have oe:=xw (c:=w7.heap.size) (i:=2) (u:=.slice A7 (vs.length+1) c7) ug (λg hg=>by have:=(ug.lt g hg).1;omega);refine ⟨⟨k2,vs++[y3.1],_,y3.2,.slice A7 (vs.length+1) c7,N',by simp;omega,I cU,Tn,SX fw (by have:=DV.size;simp only [World.setCell,Array.size_modify] at *;omega) (apA _ y3.1 htv),EW,oX.put 2 (.slice A7 (vs.length+1) c7),U11,by have:=DV.size;simp only [World.setCell,Array.size_modify] at *;omega⟩,by simp [intOf]⟩
end Go.Proofs.YtjahcnjmjahbaaaGreat
