/- A host's reading, in plain Lean: the program's and the reference's end alike. No condition. -/
import Derived.Test.YtjahcnjmjahbaaaGreatHostOk
import Derived.Test.YtjahcnjmjahbaaaGreatNormK
import Derived.Test.YtjahcnjmjahbaaaGreatShortI
namespace Go.Proofs.YtjahcnjmjahbaaaGreat
open Go.ChangeShapes Go.WideShapes Go.ChangeAt Go.RowKit
set_option linter.unusedVariables false
set_option linter.unusedSimpArgs false
set_option maxHeartbeats 2000000
set_option maxRecDepth 100000
def Gs (s:ByteArray) (a:Int):iU × Int :=
 (⟨(dP s a).1,(dP s (dP s a).2).1,(fG s (dP s (dP s a).2).2).1⟩,(fG s (dP s (dP s a).2).2).2)
def Je (s:ByteArray) (st:Int × Bool):iU × (Int × Bool) :=
 (⟨(aD s st).1,(aD s (aD s st).2).1,(iZ s (aD s (aD s st).2).2).1⟩,(iZ s (aD s (aD s st).2).2).2)
theorem Y0 {s:ByteArray} {a:Int} (h:a < 0):(fG s a).2 < 0:=by rw [QA h];decide
theorem MH {s:ByteArray} {most a:Int} (hm:0<=most) (h:a < 0):jC s most a = (0,-1):=by
 unfold jC;rw [QA h,if_pos hm,if_pos (by decide)]
theorem Rg {s:ByteArray} {a:Int} (h:a < 0):(Gs s a).2 < 0:=Y0 (EU (EU h))
theorem aoD {s:ByteArray} {a:Int} {st:Int × Bool} (h:Same a st):Same (Gs s a).2 (Je s st).2/\(0<=(Gs s a).2->(Gs s a).1 = (Je s st).1):=by
 obtain ⟨h1,e1⟩:=CB (s:=s) h.cM;obtain ⟨h2,e2⟩:=CB (s:=s) h1.cM;obtain ⟨h3,e3⟩:=CX (s:=s) h2.cM;exact ⟨h3,λ_=>by unfold Gs Je;rw [e1,e2,e3]⟩
def WM (s:ByteArray) (nm:ByteArray) (ls:List ao) (a:Int):az × Int :=
 (⟨nm,ls,(fG s a).1,(fG s (fG s a).2).1,(fG s (fG s (fG s a).2).2).1,
   (qX (Gs s) (jC s 4 (fG s (fG s (fG s a).2).2).2).1.toNat [] (jC s 4 (fG s (fG s (fG s a).2).2).2).2).1⟩,
  (qX (Gs s) (jC s 4 (fG s (fG s (fG s a).2).2).2).1.toNat [] (jC s 4 (fG s (fG s (fG s a).2).2).2).2).2)
def Jb (s:ByteArray) (nm:ByteArray) (ls:List ao) (st:Int × Bool):az × (Int × Bool) :=
 (⟨nm,ls,(iZ s st).1,(iZ s (iZ s st).2).1,(iZ s (iZ s (iZ s st).2).2).1,
   (bt (Je s) (lM s 4 (iZ s (iZ s (iZ s st).2).2).2).1.toNat [] (lM s 4 (iZ s (iZ s (iZ s st).2).2).2).2).1⟩,
  (bt (Je s) (lM s 4 (iZ s (iZ s (iZ s st).2).2).2).1.toNat [] (lM s 4 (iZ s (iZ s (iZ s st).2).2).2).2).2)
theorem PZ {s nm:ByteArray} {ls:List ao} {a:Int} (h:a < 0):(WM s nm ls a).2 < 0:=by
 unfold WM;refine MP (λa ha=>Rg ha) _ _ _ ?_;rw [MH (by decide) (Y0 (Y0 (Y0 h)))];decide
theorem ai5 {s nm nm':ByteArray} {ls Ge:List ao} {a:Int} {st:Int × Bool} (h:Same a st) (hn:nm = nm') (hl:0<=a->ls = Ge):Same (WM s nm ls a).2 (Jb s nm' Ge st).2/\(0<=(WM s nm ls a).2->(WM s nm ls a).1 = (Jb s nm' Ge st).1):=by
 obtain ⟨h1,e1⟩:=CX (s:=s) h.cM;obtain ⟨h2,e2⟩:=CX (s:=s) h1.cM;obtain ⟨h3,e3⟩:=CX (s:=s) h2.cM;obtain ⟨h4,e4⟩:=P6 (s:=s) (most:=4) (by decide) h3.cM;have h5:=Y1 (r:=Gs s) (q:=Je s) (λa ha=>Rg ha) (λa st hs=>aoD hs) (jC s 4 (fG s (fG s (fG s a).2).2).2).1.toNat [] [] _ _ h4 (λ_=>rfl);refine ⟨?_,λh0=>?_⟩
 ·unfold WM Jb;dsimp only;rw [<- e4];exact h5.1
 ·have ha:0<=a:=by
   rcases Int.lt_or_le a 0 with am | iN
   ·exact absurd (PZ (s:=s) (nm:=nm) (ls:=ls) am) J
   ·exact iN
  have e5:=h5.2 h0;unfold WM Jb;dsimp only;rw [hn,hl ha,e1,e2,e3,<- e4,e5]
def xY (s:ByteArray) (a:Int):az × Int:=WM s (dP s a).1 (iF s (dP s a).2).1 (iF s (dP s a).2).2
def Ad (s:ByteArray) (a:Int):az × Int:=((xY s a).1,if Aj (xY s a).1 = true then (xY s a).2 else -1)
def wF (s:ByteArray) (st:Int × Bool):az × (Int × Bool):=Jb s (aD s st).1 (jS s (aD s st).2).1 (jS s (aD s st).2).2
theorem acd {h:az} (e:sD h.labels = false):Aj h = false:=by unfold Aj;rw [e];simp
def MB (t:iU):ByteArray:=aL t.key++aL t.value++jD t.effect
def Oe (x:az):ByteArray:=aL x.name++Fe x.labels++jD x.aw++jD x.mem++jD x.slots++jD x.aT.length
def H8 (x:az) (k:Nat):ByteArray:=(x.aT.take k).foldl (λs t=>s++MB t) (Oe x)
def wS (x:az):ByteArray:=if Aj x then H8 x x.aT.length else ⟨#[]⟩
theorem TJ {x:az} {k:Nat} (h:k < x.aT.length):H8 x (k+1) = H8 x k++MB x.aT[k]:=FI _ _ _ _ h
theorem aew {t:iU} (h1:(t.key.size:Int)<=1048576) (h2:(t.value.size:Int)<=1048576) (h3:aR t.effect):(MB t).size<=2097182:=by
 have a:=iJ t.key J;have b:=iJ t.value J;have c:=bM t.effect h3;unfold MB;rw [ByteArray.size_append,ByteArray.size_append];omega
theorem Rn (xs:List ao) (hl:(xs.length:Int)<=1048576) (hx:∀l∈xs,(l.key.size:Int)<=1048576/\(l.value.size:Int)<=1048576):((Fe xs).size:Int)<=2199045931018:=by
 exact Mz
theorem Sl.ac9 {w:World} {xs:List iU} {A:Option Addr} {c:Nat} {F:List Nat} (h:Sl w xs A c F):∀t∈xs,aR t.effect:=by
 intro p hp;obtain ⟨k,hk,rfl⟩:=List.getElem_of_mem hp;obtain ⟨b,o,ck,Fk,_,_,_,hr,_,_⟩:=h.get hk;obtain ⟨rfl,rfl,b9,kP,lD⟩:=oK hr;exact lD
theorem NH (x:az) (hx:∀t∈x.aT,(t.key.size:Int)<=1048576/\(t.value.size:Int)<=1048576) (hi:∀t∈x.aT,aR t.effect):∀k,k<=x.aT.length->(H8 x k).size<=(Oe x).size+k * 2097182
 | 0,_=>by simp [H8]
 | k+1,h=>by
   rw [TJ J,ByteArray.size_append];have h1:=NH x hx hi k J;have h2:=aew (hx x.aT[k] (List.getElem_mem ..)).1 (hx x.aT[k] (List.getElem_mem ..)).2 (hi x.aT[k] (List.getElem_mem ..));omega
theorem XK (x:az) (cs:List Value) (F:List Nat) (w:World) (h:rd w x cs F) (hw:(x.wt:Int)<=1048576) :
 Calls Tryz.prog 10 #[.agg cs.toArray] w λe w'=>e = .returned (.string (wS x))/\Below w.heap.size w w':=by
 have fv:x.wt = x.name.size+kL ao.wt x.labels+kL iU.wt x.aT:=rfl;obtain ⟨dq,di⟩:=sW (xs:=x.labels) J;obtain ⟨fu,dr⟩:=BH (xs:=x.aT) J;have pg:(x.name.size:Int)<=1048576:=by omega
 have Zb:=I di;have Ux:=I dr;clear di dr;have hr:=h;obtain ⟨gu,gy,jw,kJ,kK,qU,aq,hF,hname,dO,vg,b8,uI,jq⟩:=iy hr;subst aq;clear hr hF;cases hR:Aj x with
 | false =>
   have bb:wS x = ⟨#[]⟩:=(by unfold wS;rw [hR];rfl);have HF:=I bb;have HR:=I hR;clear bb hR;go_enter Tryz.func10,Tryz.ntmps10;go_wp2_with fail
   refine (tY x _ _ _ (aJ h bc) hw).mono ?_;exact od
 | true =>
   have bb:wS x = H8 x x.aT.length:=(by unfold wS;rw [hR];rfl);have HF:=I bb;have HR:=I hR;clear bb hR;go_enter Tryz.func10,Tryz.ntmps10;go_wp2_with fail
   refine (tY x _ _ _ (aJ h bc) hw).mono ?_;rw [HR.out];rintro e w2 ⟨rfl,ap⟩;obtain ⟨bX,cE⟩:=ay ap;have cr:w.heap.size < w2.heap.size:=(sq ap.size);have lz:=iJ x.name J;have me:=Rn x.labels dq Zb.out;have FH:=bM x.aw vg;have FJ:=bM x.mem b8;have FK:=bM x.slots uI;have ua:aR (x.aT.length:Int):=(by unfold aR;omega);have FL:=bM x.aT.length ua;have qi:w2.cell? ⟨w.heap.size,5,none⟩ = some (.slice kJ x.aT.length kK):=by exact pP
   have eu:Below w.heap.size w w2:=bc;have FM:=I jq.ac9;have Q2:(Oe x).size<=2199046980000:=by unfold Oe;simp only [ByteArray.size_append];omega
   go_wp2_with fail
   refine aF w2 U' U' (aj _) ?_
   repeat ((first | refine aG J' ?_ | refine aH _ J' LP ?_);simp only [Act.put,pz])
   refine aN ?_;intro wn hn;replace hn:=hn.out;have bw:wn.cell? ⟨w.heap.size,5,none⟩ = some (.slice kJ x.aT.length kK):=r' hn qi cr;go_wp2_with fail
   go_loopw [3,36] (λs i wr=>∃k:Nat,k<=x.aT.length/\i = .int .i64 k/\s = .string (H8 x k)/\wr.cell? ⟨w.heap.size,5,none⟩ = some (.slice kJ x.aT.length kK)/\Below w.heap.size w wr) (λ_ i _=>x.aT.length - (intOf i).toNat)
   case atStart=>exact ⟨0,Nat.zero_le _,rfl,rfl,bw,ah eu hn⟩
   case round =>
    obtain ⟨k,hk,rfl,rfl,bo,ax⟩:=hrel;have dd:w.heap.size < wr.heap.size:=World.block_lt_of_cell? wr _ bo;by_cases am:k < x.aT.length
    ·obtain ⟨b,o,ck,Fk,rfl,o9,hbs,hr,bm,hc⟩:=(Sl.ext (w':=wr) (A:=kJ) (c:=kK) jq ax).get am;obtain ⟨aq,su,adC,abS,KZ⟩:=oK hr;subst aq;obtain ⟨q0,q1,q2⟩:=iX 3 hc;clear hc;obtain ⟨cF,cC⟩:=Ux.out x.aT[k] (List.getElem_mem ..);have Ab:=iJ x.aT[k].key J;have oz:=iJ x.aT[k].value J;have x5:=bM x.aT[k].effect KZ;have PE:=NH x Ux.out FM.out k hk;have lU:k * 2097182<=1048576 * 2097182:=Nat.mul_le_mul_right _ J;have dC:=TJ am;have HN:=I dC;clear dC;generalize hS:H8 x k = S0 at HN PE |-;go_wp2_with fail
     refine aF _ U' U' (aj _) ?_
     repeat (first
      | (apply aG
         case hw=>rfl
         simp only [Act.put,pz])
      | (apply aH
         case hw=>rfl
         case h =>
          intro wq hq;have cN:=(aB hq).1;have lJ:=(aB hq).2;go_simp
          first
           | exact ⟨hq,rfl⟩
           | exact ⟨aQ hq _,rfl⟩
           | (first | (refine (zV _ _ J).mono ?_;rintro e wz ⟨rfl,nV⟩;exact ⟨rfl,aI hq nV⟩) | (refine (wE _ _ Y').mono ?_;rintro e wz ⟨rfl,nV⟩;exact ⟨rfl,aI hq nV⟩))
           | (simp only [↓IntWalk.iteOmega];exact ⟨hq,rfl⟩)
         simp only [Act.put,pz]))
     refine aN ?_;intro yW gv;replace gv:=gv.out;go_wp2;exact ⟨⟨k+1,J,N',by rw [HN.out];unfold MB;simp only [ByteArray.append_assoc],((ay gv).1 _ _ (by simp;omega)).trans ((World.cell?_of_block (heap_alloc_old wr _ dd)).trans bo),ah (ak ax _) gv⟩,by simp [intOf];omega⟩
    ·have bs:k = x.aT.length:=J;exact xv
theorem XJ (x:az) (cs:List Value) (F:List Nat) (w:World) (h:rd w x cs F) (hw:(x.wt:Int)<=1048576) :
 Calls Tryz.prog 82 #[.agg cs.toArray] w λe w'=>e = .returned (.string (wS x))/\Below w.heap.size w w':=by
 have fv:x.wt = x.name.size+kL ao.wt x.labels+kL iU.wt x.aT:=rfl;obtain ⟨dq,di⟩:=sW (xs:=x.labels) J;obtain ⟨fu,dr⟩:=BH (xs:=x.aT) J;have pg:(x.name.size:Int)<=1048576:=by omega
 have Zb:=I di;have Ux:=I dr;clear di dr;have hr:=h;obtain ⟨gu,gy,jw,kJ,kK,qU,aq,hF,hname,dO,vg,b8,uI,jq⟩:=iy hr;subst aq;clear hr hF;cases hR:Aj x with
 | false =>
   have bb:wS x = ⟨#[]⟩:=(by unfold wS;rw [hR];rfl);have HF:=I bb;have HR:=I hR;clear bb hR;go_enter Tryz.func82,Tryz.ntmps82;go_wp2_with fail
   refine (tZ x _ _ _ (aJ h bc) hw).mono ?_;exact od
 | true =>
   have bb:wS x = H8 x x.aT.length:=(by unfold wS;rw [hR];rfl);have HF:=I bb;have HR:=I hR;clear bb hR;go_enter Tryz.func82,Tryz.ntmps82;go_wp2_with fail
   refine (tZ x _ _ _ (aJ h bc) hw).mono ?_;rw [HR.out];rintro e w2 ⟨rfl,ap⟩;obtain ⟨bX,cE⟩:=ay ap;have cr:w.heap.size < w2.heap.size:=(sq ap.size);have lz:=iJ x.name J;have me:=Rn x.labels dq Zb.out;have FH:=bM x.aw vg;have FJ:=bM x.mem b8;have FK:=bM x.slots uI;have ua:aR (x.aT.length:Int):=(by unfold aR;omega);have FL:=bM x.aT.length ua;have qi:w2.cell? ⟨w.heap.size,5,none⟩ = some (.slice kJ x.aT.length kK):=by exact pP
   have eu:Below w.heap.size w w2:=bc;have FM:=I jq.ac9;have Q2:(Oe x).size<=2199046980000:=by unfold Oe;simp only [ByteArray.size_append];omega
   go_wp2_with fail
   refine aF w2 U' U' (aj _) ?_
   repeat ((first | refine aG J' ?_ | refine aH _ J' LR ?_);simp only [Act.put,pz])
   refine aN ?_;intro wn hn;replace hn:=hn.out;have bw:wn.cell? ⟨w.heap.size,5,none⟩ = some (.slice kJ x.aT.length kK):=r' hn qi cr;go_wp2_with fail
   go_loopw [3,4] (λs i wr=>∃k:Nat,k<=x.aT.length/\i = .int .i64 k/\s = .string (H8 x k)/\wr.cell? ⟨w.heap.size,5,none⟩ = some (.slice kJ x.aT.length kK)/\Below w.heap.size w wr) (λ_ i _=>x.aT.length - (intOf i).toNat)
   case atStart=>exact ⟨0,Nat.zero_le _,rfl,rfl,bw,ah eu hn⟩
   case round =>
    obtain ⟨k,hk,rfl,rfl,bo,ax⟩:=hrel;have dd:w.heap.size < wr.heap.size:=World.block_lt_of_cell? wr _ bo;by_cases am:k < x.aT.length
    ·obtain ⟨b,o,ck,Fk,rfl,o9,hbs,hr,bm,hc⟩:=(Sl.ext (w':=wr) (A:=kJ) (c:=kK) jq ax).get am;obtain ⟨aq,su,adC,abS,KZ⟩:=oK hr;subst aq;obtain ⟨q0,q1,q2⟩:=iX 3 hc;clear hc;obtain ⟨cF,cC⟩:=Ux.out x.aT[k] (List.getElem_mem ..);have Ab:=iJ x.aT[k].key J;have oz:=iJ x.aT[k].value J;have x5:=bM x.aT[k].effect KZ;have PE:=NH x Ux.out FM.out k hk;have lU:k * 2097182<=1048576 * 2097182:=Nat.mul_le_mul_right _ J;have dC:=TJ am;have HN:=I dC;clear dC;generalize hS:H8 x k = S0 at HN PE |-;go_wp2_with fail
     refine aF _ U' U' (aj _) ?_
     repeat (first
      | (apply aG
         case hw=>rfl
         simp only [Act.put,pz])
      | (apply aH
         case hw=>rfl
         case h =>
          intro wq hq;have cN:=(aB hq).1;have lJ:=(aB hq).2;go_simp
          first
           | exact ⟨hq,rfl⟩
           | exact ⟨aQ hq _,rfl⟩
           | (first | (refine (zW _ _ J).mono ?_;rintro e wz ⟨rfl,nV⟩;exact ⟨rfl,aI hq nV⟩) | (refine (uP _ _ Y').mono ?_;rintro e wz ⟨rfl,nV⟩;exact ⟨rfl,aI hq nV⟩))
           | (simp only [↓IntWalk.iteOmega];exact ⟨hq,rfl⟩)
         simp only [Act.put,pz]))
     refine aN ?_;intro yW gv;replace gv:=gv.out;go_wp2;exact ⟨⟨k+1,J,N',by rw [HN.out];unfold MB;simp only [ByteArray.append_assoc],((ay gv).1 _ _ dd).trans bo,ah ax gv⟩,by simp [intOf];omega⟩
    ·have bs:k = x.aT.length:=J;exact xv
theorem MN {α:Type} (r:Int × Bool->α × (Int × Bool)):∀(k:Nat) (xs:List α) (st:Int × Bool),(bt r k xs st).1.length<=xs.length+k
 | 0,_,_=>Nat.le_refl _
 | k+1,xs,st=>by
   rw [bt];split
   ·exact Nat.le_add_right _ _
   ·have:=MN r k (xs++[(r st).1]) (r st).2;simp at this;omega
theorem Gg {α:Type} {r:Int × Bool->α × (Int × Bool)} {p:α->Prop} (hr:∀st,p (r st).1):∀(k:Nat) (xs:List α) (st:Int × Bool),(∀x∈xs,p x)->∀x∈(bt r k xs st).1,p x
 | 0,_,_,h=>h
 | k+1,xs,st,h=>by
   rw [bt];split
   ·exact h
   ·refine Gg hr k _ _ (λx hx=>?_);rcases List.mem_append.1 hx with hx | hx
    ·exact h x hx
    ·simp only [List.mem_singleton] at hx;rw [hx];exact hr st
theorem xw {w:World} {B e size n c i:Nat} {v u:Value} {xs:List Value} (h:w.ownsRow B e size v n xs) (hc:∀g,v.ownBlock = some g->g≠c):(w.setCell ⟨c,i,none⟩ u).ownsRow B e size v n xs :=
 h.kept (row:=some c) ⟨rfl,rfl,rfl,by simp [World.setCell],λk hk bN=>Below.heap_setCell _ _ _ _ (by intro e;apply bN;rw [e])⟩ (by
   by_cases hv:v.ownBlock = some c
   ·exact absurd rfl (hc c hv)
   ·exact .inr hv)
theorem nN.xZ {F:List Nat} {w w1:World} (h:nN F w w1) {p:Addr} (hp:w.heap.size<=p.block) (u:Value):nN F w (w1.setCell p u) :=
 ⟨h.os,h.tape,h.output,by simpa [World.setCell] using h.size,λi hi hn=>(Below.heap_setCell _ _ _ _ J).trans (h.block i hi hn)⟩
theorem nN.grown {F:List Nat} {w w1 w2:World} {row:Option Nat} (h:nN F w w1) (hg:w1.grownBy w2 row) (hr:∀g,row = some g->w.heap.size<=g):nN F w w2 :=
 ⟨hg.os.trans h.os,hg.tape.trans h.tape,hg.output.trans h.output,Nat.le_trans h.size hg.size,λi hi hn=>(hg.block i (Nat.lt_of_lt_of_le hi h.size) (by intro e;have:=hr i e.symm;omega)).trans (h.block i hi hn)⟩
theorem adl:(Tryz.prog.info? 57).map (λi=>(i.zero,i.size,i.bytes)) = some (some (.agg #[.string ⟨#[]⟩,.string ⟨#[]⟩]),2,32):=by kernel_rfl
theorem ae6:DL Tryz.prog 35 57 (.agg #[.string ⟨#[]⟩,.string ⟨#[]⟩]) 2 32:=⟨Tryz.underlying35,adl,rfl,J⟩
theorem aY.lab {w w':World} {B:Nat} {xs:List ao} {ds:List Value} (h:aY w B xs ds []) (hs:w.heap.size<=w'.heap.size) {l:ao} (h1:(l.key.size:Int)<=1048576) (h2:(l.value.size:Int)<=1048576):aY w' B (xs++[l]) (ds++[.string l.key,.string l.value]) [] :=
 ⟨(h.rd.frame (λb hb=>by cases hb) hs).append (.single (WB w' l jp jp)),List.nodup_nil,(λb hb=>by cases hb),(λb hb=>by cases hb)⟩
theorem qR (s:ByteArray) (a:Int) (hs:(s.size:Int)<=1048576):((dP s a).1.size:Int)<=1048576:=by
 unfold dP;split
 ·show (0:Int)<=_;omega
 ·exact (Oq s a hs).1
theorem BP (s:ByteArray) (st:Int × Bool):(jS s st).1.length<=6:=by
 have h:=MN (l0 s) (lM s 6 st).1.toNat [] (lM s 6 st).2;have:=xX s 6 st (by decide);unfold jS;simp only [List.length_nil] at h;omega
theorem nG (s:ByteArray) (st:Int × Bool) (hs:(s.size:Int)<=1048576):((aD s st).1.size:Int)<=1048576:=by
 unfold aD;split
 ·show (0:Int)<=_;omega
 ·exact (Oq s st.1 hs).1
theorem Ej (s:ByteArray) (st:Int × Bool) (hs:(s.size:Int)<=1048576):∀l∈(jS s st).1,(l.key.size:Int)<=1048576/\(l.value.size:Int)<=1048576 :=
 Gg (λst=>⟨nG s _ hs,nG s _ hs⟩) _ _ _ (λl hl=>by cases hl)
theorem Yc (s:ByteArray) (b:Nat) (st:Int × Bool) (w:World) (h:yM w b s st) (hs:(s.size:Int)<=1048576) :
 Calls Tryz.prog 88 #[.pointer (some ⟨b,0,none⟩)] w λe w'=>∃A c F,e = .returned (.slice A (jS s st).1.length c)/\ai w' w.heap.size (jS s st).1 [.slice A (jS s st).1.length c] F/\yM w' b s (jS s st).2/\nN [b] w w':=by
 have am:=h.lt;have oT:0<=(lM s 6 st).1/\(lM s 6 st).1<=6:=xX s 6 st (by decide);have HC:=I (Gi s b 6 st);have GC:=I (show jS s st = bt (l0 s) (lM s 6 st).1.toNat [] (lM s 6 st).2 from rfl);have H:=I h;clear h;generalize lM s 6 st = q at *;generalize jS s st = R at *;obtain ⟨N,hN⟩:∃N:Nat,q.1 = N:=⟨q.1.toNat,J⟩;have hN6:N<=6:=by omega
 have HN:=I hN;clear hN oT;go_enter Tryz.func88,Tryz.ntmps88;go_wp2_with fail
 refine (HC.out _ (H.out.ext (ak (aj _) _)) hs).mono ?_;rw [HN.out];rintro e w2 ⟨rfl,dj,ca⟩;have GD:nN [b] w w2:=(nN.lq [b] (ak (aj _) _)).trans ca;have bz:=rQ (World.ownsRow_made (base:=w.heap.size) (e:=57) (size:=2) w #[] 0 (Nat.le_refl _) jp rfl) ca am;have cH:=GC.out;rw [HN.out,Int.toNat_natCast] at cH;have pI:=I cH.symm;clear cH;go_wp2_with fail
 go_loopw [3,5] (λv i wr=>∃(j k:Nat) (xs:List ao) (ds:List Value) (za:Int × Bool),i = .int .i64 j/\j+k = N/\xs.length+k<=6/\Hid (bt (l0 s) k xs za = R)/\Hid (∀l∈xs,(l.key.size:Int)<=1048576/\(l.value.size:Int)<=1048576)/\wr.ownsRow w.heap.size 57 2 v xs.length ds/\aY wr w.heap.size xs ds []/\yM wr b s za/\nN [b] w wr) (λ_ i _=>N - (intOf i).toNat)
 case atStart=>exact ⟨0,N,[],[],q.2,rfl,J,by simpa using hN6,pI.out,(λl hl=>by cases hl),(by simpa using bz),aY.nil _ _,dj,GD⟩
 case round =>
  obtain ⟨j,k,xs,ds,za,rfl,fe,hk6,HL,Eo,ar,bS,hI,hu⟩:=hrel;have bX:=hI.c2;have nB:b < wr.heap.size:=hI.lt;obtain ⟨a',bad⟩:=za;dsimp only at bX;by_cases hd:k = 0∨bad = true
  ·have bI:(xs,(a',bad)) = R:=by
    have:=HL.out;exact M0
   have M7:=I bI.symm;clear bI;obtain ⟨Al,cl,Gl,rfl,hO⟩:=ai.oJ ar bS (λ_ _ hb=>by cases hb);have HI:=I hI;have HO:=I hO;have HU:=I hu;clear hI hO hu ar bS;by_cases fJ:(j:Int) < (N:Int)
   ·obtain rfl:bad = true:=by rcases hd with h0 | h0 <;> first | omega | exact h0
    exact M6
   ·exact M6
  ·obtain rfl:bad = false:=by cases bad <;> first | rfl | exact absurd (.inr rfl) hd
   obtain ⟨k,rfl⟩:∃k',k = k'+1:=⟨k - 1,J⟩;have fJ:(j:Int) < (N:Int):=J;have bI:=HL.out;rw [bt,if_neg (show ¬((a',false):Int × Bool).2 = true by simp)] at bI;have gC:=I bI;have sx:=nG s (a',false) hs;have vb:=nG s (aD s (a',false)).2 hs;have gH:=I (λ(wq:World) (hq:yM wq b s (a',false))=>DJ s b (a',false) wq hq hs);have gL:=I (λ(wq:World) (hq:yM wq b s (aD s (a',false)).2)=>DJ s b (aD s (a',false)).2 wq hq hs);have HE:=I (show l0 s (a',false) = (⟨(aD s (a',false)).1,(aD s (aD s (a',false)).2).1⟩,(aD s (aD s (a',false)).2).2) from rfl);clear bI hd;generalize aD s (aD s (a',false)).2 = t2 at *;generalize aD s (a',false) = t1 at *;go_wp2_with fail
   refine (gH.out _ (hI.ext bc)).mono ?_;rintro e w3 ⟨rfl,TR,bJ⟩;go_wp2_with fail
   refine (gL.out _ TR).mono ?_;rintro e w4 ⟨rfl,hI4,Td⟩;have lN:=rQ (rQ ar bJ am) Td am;have Py:=(hu.trans bJ).trans Td;have Wy:w.heap.size<=w4.heap.size:=Py.size;have I0:wr.heap.size<=w4.heap.size:=Nat.le_trans bJ.size Td.size;have pC:xs.length<=6:=J;have HI4:=I hI4;clear hI hu TR bJ hI4 Td
   go_wp2_with (
    at_builtin
    go_must (refine lC ae6 J' _ _ J' _ _ _ _ _ lN J' [.string t1.1,.string t2.1] gn J' dv J J Wy ?_)
    intro v6 w6 lp vo uQ)
   have cU:=gC.out;rw [HE.out] at cU;replace cU:Hid (bt (l0 s) k (xs++[⟨t1.1,t2.1⟩]) t2.2 = R):=cU;have bN:some b≠u3.ownBlock:=(by intro e;have:=(lN.lt b e.symm).1;omega);refine ⟨⟨j+1,k,xs++[⟨t1.1,t2.1⟩],_,t2.2,N',J,by simp;omega,cU,?_,(by rw [List.length_append];exact lp),aY.lab bS (Nat.le_trans I0 vo.size) sx vb,HI4.out.keep (vo.block b HI4.out.lt bN),Py.grown vo (λg hg=>(lN.lt g hg).1)⟩,by simp [intOf];omega⟩;exact xi
theorem aaT (s:ByteArray) (b:Nat) (a:Int) (w:World) (h:zk w b s a) (hs:(s.size:Int)<=1048576) :
 Calls Tryz.prog 51 #[.pointer (some ⟨b,0,none⟩)] w λe w'=>∃A c F,e = .returned (.slice A (iF s a).1.length c)/\ai w' w.heap.size (iF s a).1 [.slice A (iF s a).1.length c] F/\zk w' b s (iF s a).2/\nN [b] w w':=by
 have am:=h.lt;have oT:=vI s 6 a (by decide);have HC:=I (cI s b a 6);have GC:=I (show iP s a = qX (sa s) (jC s 6 a).1.toNat [] (jC s 6 a).2 from rfl);have HLI:=I (show iF s a = ((iP s a).1,if sD (iP s a).1 = true then (iP s a).2 else -1) from rfl);have H:=I h;clear h;generalize jC s 6 a = q at *;generalize iP s a = R at *;obtain ⟨N,hN⟩:∃N:Nat,q.1 = N:=⟨q.1.toNat,J⟩;have hN6:N<=6:=by omega
 have HN:=I hN;clear hN oT;go_enter Tryz.func51,Tryz.ntmps51;go_wp2_with fail
 refine (HC.out _ (H.out.ext (ak (aj _) _)) hs (by decide)).mono ?_;rw [HN.out];rintro e w2 ⟨rfl,dj,ca⟩;have GD:nN [b] w w2:=(nN.lq [b] (ak (aj _) _)).trans ca;have bz:=rQ (World.ownsRow_made (base:=w.heap.size) (e:=57) (size:=2) w #[] 0 (Nat.le_refl _) jp rfl) ca am;have cH:=GC.out;rw [HN.out,Int.toNat_natCast] at cH;have pI:=I cH.symm;clear cH;go_wp2_with fail
 go_loopw [3,4] (λv n wr=>∃(k:Nat) (xs:List ao) (ds:List Value) (a':Int),n = .int .i64 k/\xs.length+k<=6/\Hid (qX (sa s) k xs a' = R)/\Hid (∀l∈xs,(l.key.size:Int)<=1048576/\(l.value.size:Int)<=1048576)/\wr.ownsRow w.heap.size 57 2 v xs.length ds/\aY wr w.heap.size xs ds []/\zk wr b s a'/\nN [b] w wr) (λ_ n _=>(intOf n).toNat)
 case atStart=>exact ⟨N,[],[],q.2,rfl,by simpa using hN6,pI.out,(λl hl=>by cases hl),(by simpa using bz),aY.nil _ _,dj,GD⟩
 case round =>
  obtain ⟨k,xs,ds,a',rfl,hk6,HL,Eo,ar,bS,hI,hu⟩:=hrel;cases k with
  | zero =>
    have bI:=HL.out;rw [qX] at bI;have M7:=I bI.symm;clear bI;obtain ⟨Al,cl,Gl,rfl,hO⟩:=ai.oJ ar bS (λ_ _ hb=>by cases hb);have HI:=I hI;have HO:=I hO;have HU:=I hu;have gF:(xs.length:Int)<=1048576:=J;clear hI hO hu ar bS;go_wp2_with fail
    refine (Jv xs Al _ cl Gl _ HO.out.rd rfl gF Eo.out).mono ?_;rintro e w3 ⟨rfl,ba⟩;go_wp2_with fail
    refine (UG s b a' _ _ (HI.out.ext ba)).mono ?_;rintro e w4 ⟨rfl,hI4,Td⟩;have i6:=Td.own (HO.out.ext ba) (λy hy hb=>by have:=HO.out.base y hy;simp only [List.mem_singleton] at hb;omega);have Py:=(HU.out.trans (nN.lq [b] ba)).trans Td;have HF:=I (show iF s a = (xs,if sD xs = true then a' else -1) by rw [HLI.out,M7.out]);go_wp2;go_ret
    rw [HF.out];exact ⟨Al,cl,Gl,rfl,i6,hI4,Py⟩
  | succ k =>
    have bI:=HL.out;rw [qX] at bI;have gC:=I bI;have sx:=qR s a' hs;have vb:=qR s (dP s a').2 hs;have gH:=I (λ(wq:World) (hq:zk wq b s a')=>CW s b a' wq hq hs);have gL:=I (λ(wq:World) (hq:zk wq b s (dP s a').2)=>CW s b (dP s a').2 wq hq hs);have HE:=I (show sa s a' = (⟨(dP s a').1,(dP s (dP s a').2).1⟩,(dP s (dP s a').2).2) from rfl);have lU:(((k+1:Nat):Int) - 1) = (k:Int):=J;clear bI;generalize dP s (dP s a').2 = t2 at *;generalize dP s a' = t1 at *;have UT:wr.heap.size<=wr.heap.size:=Nat.le_refl _;have nB:b < wr.heap.size:=hI.lt;go_wp2_with fail
    refine (gH.out _ (hI.ext bc)).mono ?_;rintro e w3 ⟨rfl,TR,bJ⟩;go_wp2_with fail
    refine (gL.out _ (TR.ext bc)).mono ?_;rintro e w4 ⟨rfl,hI4,Td⟩;have e4:=Td.block w3.heap.size S' (by have:=TR.lt;simp;omega);have m0:w4.cell? ⟨w3.heap.size,0,none⟩ = some (.string t1.1):=(by rw [World.cell?_of_block e4,cell_of_row _ _ _ _ _ _ (heap_alloc_new w3 _)];rfl);have m1:w4.cell? ⟨w3.heap.size,1,none⟩ = some (.string ⟨#[]⟩):=(by rw [World.cell?_of_block e4,cell_of_row _ _ _ _ _ _ (heap_alloc_new w3 _)];rfl);have mf:w4.frozen? ⟨w3.heap.size,1,none⟩ = false:=(by rw [heap_alloc_new] at e4;simp [World.frozen?,e4]);have Wy:w3.heap.size < w4.heap.size:=(by have:=Td.size;simp at this;omega);have eN:wr.heap.size<=w3.heap.size:=bJ.size;have pj:w.heap.size<=wr.heap.size:=hu.size;have ek:=rQ ar bJ am;have ix:=xw (c:=w3.heap.size) (i:=1) (u:=.string t2.1) (rQ (ek.alloc _) Td am) (λg hg=>by have:=(ek.lt g hg).2;omega);have lr:=zk.keep (w':=w4.setCell ⟨w3.heap.size,1,none⟩ (.string t2.1)) hI4 (Below.heap_setCell _ _ _ _ bv);have hU5:=(((hu.trans bJ).alloc _).trans Td).xZ (p:=⟨w3.heap.size,1,none⟩) bv (.string t2.1);have Es:w.heap.size<=(w4.setCell ⟨w3.heap.size,1,none⟩ (.string t2.1)).heap.size:=hU5.size;have I0:wr.heap.size<=(w4.setCell ⟨w3.heap.size,1,none⟩ (.string t2.1)).heap.size:=(by simp [World.setCell];omega);clear e4 ek hI hu TR bJ hI4 Td;have pC:xs.length<=6:=J
    go_wp2_with (
     at_builtin
     go_must (refine lC ae6 J' _ _ J' _ _ _ _ _ ix J' [.string t1.1,.string t2.1] gn J' dv J J Es ?_)
     intro v6 w6 lp vo uQ)
    have cU:=gC.out;rw [HE.out] at cU;replace cU:Hid (qX (sa s) k (xs++[⟨t1.1,t2.1⟩]) t2.2 = R):=cU;have bN:some b≠u3.ownBlock:=(by intro e;have:=(ix.lt b e.symm).1;omega);refine ⟨⟨k,xs++[⟨t1.1,t2.1⟩],_,t2.2,N',by simp;omega,cU,?_,(by rw [List.length_append];exact lp),aY.lab bS (Nat.le_trans I0 vo.size) sx vb,lr.keep (vo.block b lr.lt bN),hU5.grown vo (λg hg=>(ix.lt g hg).1)⟩,by simp [intOf]⟩;exact xi
end Go.Proofs.YtjahcnjmjahbaaaGreat
