/- ClusterOk, of the program. No condition. -/
import Derived.Test.YtjahcnjmjahbaaaGreatClusterIC
import Derived.Test.YtjahcnjmjahbaaaGreatClusterSC
namespace Go.Proofs.YtjahcnjmjahbaaaGreat
open Go.ChangeShapes Go.WideShapes Go.ChangeAt Go.RowKit
set_option linter.unusedVariables false
set_option linter.unusedSimpArgs false
set_option maxHeartbeats 4000000
set_option maxRecDepth 100000
theorem qL (x:aU) (cs:List Value) (F:List Nat) (w:World) (h:rd w x cs F) (hw:(x.wt:Int)≤1048576) :
 Calls Tryz.prog 28 #[.agg cs.toArray] w fun e w'=>e = .returned (.bool (iI x))∧Below w.heap.size w w':=by
 have fS:x.wt = kL az.wt x.Z+kL ai.wt x.O:=rfl;have cG:(x.Z.length:Int)≤1048576:=by have:=gJ az.wt x.Z;omega
 have vk:(x.O.length:Int)≤1048576:=by have:=gJ ai.wt x.O;omega
 refine aeh x cs F w h cG vk (fun y hy=>?_) (fun y hy=>?_)
 ·obtain ⟨k,hk,rfl⟩:=List.getElem_of_mem hy;exact U6.nZ _ (by have:=rM (f:=az.wt) hk;omega)
 ·exact I8
theorem qM (x:aU) (cs:List Value) (F:List Nat) (w:World) (h:rd w x cs F) (hw:(x.wt:Int)≤1048576) :
 Calls Tryz.prog 20 #[.agg cs.toArray] w fun e w'=>e = .returned (.bool (iI x))∧Below w.heap.size w w':=by
 have fS:x.wt = kL az.wt x.Z+kL ai.wt x.O:=rfl;have cG:(x.Z.length:Int)≤1048576:=by have:=gJ az.wt x.Z;omega
 have vk:(x.O.length:Int)≤1048576:=by have:=gJ ai.wt x.O;omega
 refine Dx x cs F w h cG vk (fun y hy=>?_) (fun y hy=>?_)
 ·obtain ⟨k,hk,rfl⟩:=List.getElem_of_mem hy;exact U6.nZ _ (by have:=rM (f:=az.wt) hk;omega)
 ·exact I8
def Bl (hs:List az) (k:Int):ByteArray:=if 0 < k then (match hs[(k - 1).toNat]? with | some h=>h.name | none=>⟨#[]⟩) else ⟨#[]⟩
theorem ZV {hs:List az} {k:Int} (h:¬0 < k):Bl hs k = ⟨#[]⟩:=by unfold Bl;rw [if_neg h]
theorem VL {hs:List az} {k:Int} {j:Nat} (hj:j < hs.length) (h:k = (j:Int)+1):Bl hs k = hs[j].name:=by
 unfold Bl;rw [if_pos J,show (k - 1).toNat = j by omega,List.getElem?_eq_getElem hj]
def JF (s:ByteArray) (hs:List az) (a:Int):ai × Int :=
 (⟨(Dl s a).1,Bl hs (jC s hs.length (Dl s a).2).1,(fG s (jC s hs.length (Dl s a).2).2).1⟩,(fG s (jC s hs.length (Dl s a).2).2).2)
def amO (s:ByteArray) (p q f n:Int) (a:Int):aU × Int :=
 (⟨(xC (Ad s) s 8 a).1,(xC (JF s (xC (Ad s) s 8 a).1) s 12 (xC (Ad s) s 8 a).2).1,n,⟨p,q,f⟩⟩,(xC (JF s (xC (Ad s) s 8 a).1) s 12 (xC (Ad s) s 8 a).2).2)
def RQ (s:ByteArray):aU × Int :=
 amO s (fG s 0).1 (fG s (fG s 0).2).1 (fG s (fG s (fG s 0).2).2).1 (fG s (fG s (fG s (fG s 0).2).2).2).1 (fG s (fG s (fG s (fG s 0).2).2).2).2
def nX:aU:=⟨[],[],0,⟨0,0,0⟩⟩
def zh (s:ByteArray):aU × Bool:=if (RQ s).2 = (s.size:Int)∧iI (RQ s).1 = true then ((RQ s).1,true) else (nX,false)
theorem aqf {s:ByteArray} {a:Int} (h:a < 0):(Ad s a).2 < 0:=by
 have hn:(iF s (dP s a).2).2 < 0:=by exact IT
 have sP:(xY s a).2 < 0:=PZ hn;show (if _ then _ else _:Int) < 0;split
 ·exact sP
 ·decide
theorem asq {s:ByteArray} {a:Int} (h:a < 0):(Dl s a).2 < 0:=by
 have hn:(iF s (dP s a).2).2 < 0:=by exact IT
 have sP:(Ag s a).2 < 0:=MS hn;show (if _ then _ else _:Int) < 0;split
 ·exact sP
 ·decide
theorem adY {s:ByteArray} {hs:List az} {a:Int} (h:a < 0):(JF s hs a).2 < 0:=by
 refine MR ?_;rw [RP J (asq h)];decide
def M7 (x:aU) (p:ai):ByteArray:=jD (1+pK (iM p.on) x.Z)++jD p.seq
def M8 (x:aU) (p:ai):ByteArray:=Bg p.aS++M7 x p
def UR (x:aU):ByteArray:=jD x.weights.pack++jD x.weights.af++jD x.weights.an++jD x.next++jD x.Z.length
def zn (x:aU) (k:Nat):ByteArray:=(x.Z.take k).foldl (fun s h=>s++wS h) (UR x)
def RY (x:aU):ByteArray:=zn x x.Z.length++jD x.O.length
def Ig (x:aU) (k:Nat):ByteArray:=(x.O.take k).foldl (fun s p=>s++M8 x p) (RY x)
def JC (x:aU):ByteArray:=if iI x then Ig x x.O.length else ⟨#[]⟩
theorem QG {x:aU} {k:Nat} (h:k < x.Z.length):zn x (k+1) = zn x k++wS x.Z[k]:=FI _ _ _ _ h
theorem TU {x:aU} {k:Nat} (h:k < x.O.length):Ig x (k+1) = Ig x k++M8 x x.O[k]:=FI _ _ _ _ h
theorem aoV {x:nI} (h:GU x = true):(x.ag.length:Int)≤4:=by
 unfold GU lI lE at h;exact qz
theorem Yt {w:World} {x:az} {cs:List Value} {F:List Nat} (h:rd w x cs F) (hw:(x.wt:Int)≤1048576):(wS x).size≤4500000000000:=by
 have fS:x.wt = x.name.size+kL ao.wt x.labels+kL iU.wt x.aT:=rfl;obtain ⟨ek,dB⟩:=sW (xs:=x.labels) J;obtain ⟨fv,dT⟩:=BH (xs:=x.aT) J;obtain ⟨gu,gy,jw,kJ,kK,qU,aw,hF,hname,dO,vg,cb,uI,jq⟩:=iy h;have lV:=iJ x.name J;have mA:=IC x.labels ek dB;have M2:=bM x.ax vg;have M3:=bM x.mem cb;have M4:=bM x.ar uI;have M5:=bM x.aT.length ⟨J,J⟩;have hb:=NH x dT jq.ac9 x.aT.length (Nat.le_refl _);have hm:x.aT.length * 2097182≤1048576 * 2097182:=Nat.mul_le_mul_right _ J;have hh:(Oe x).size≤2199046980000:=by unfold Oe;simp only [ByteArray.size_append];omega
 unfold wS;split
 ·omega
 ·exact Nat.zero_le _
theorem Z7 {w:World} {x:nI} {cs:List Value} {F:List Nat} (h:rd w x cs F) (hw:(x.wt:Int)≤1048576):(Bg x).size≤9000000000000:=by
 have fS:x.wt = x.name.size+kL ao.wt x.labels+kL ba.wt x.ag+kL bH.wt x.ae:=rfl;obtain ⟨ek,dB⟩:=sW (xs:=x.labels) J;obtain ⟨mo,VU⟩:=Aa (xs:=x.ag) J;obtain ⟨fv,dT⟩:=FQ (xs:=x.ae) J;obtain ⟨gu,gy,jw,oh,nT,wG,fA,fB,jY,aw,hF,hname,dO,vg,cb,BJ,mX,eG⟩:=dL h;have lV:=iJ x.name J;have mA:=IC x.labels ek dB;have M2:=bM x.ax vg;have M3:=bM x.mem cb;have M4:=bM x.aD BJ;have M5:=bM x.ag.length ⟨J,J⟩;have hq7:=bM x.ae.length ⟨J,J⟩;have hh:(RF x).size≤2199046980000:=by unfold RF;simp only [ByteArray.size_append];omega
 have hn:=Gf x VU mX.V5 x.ag.length (Nat.le_refl _);have ht:=PO x dT eG.V7 x.ae.length (Nat.le_refl _);have hm:x.ae.length * 2097192≤1048576 * 2097192:=Nat.mul_le_mul_right _ J;have M9:(TQ x).size≤(Bh x x.ag.length).size+10:=by unfold TQ;rw [ByteArray.size_append];omega
 unfold Bg;split
 ·rename_i hR;have:=aoV hR;have o0:x.ag.length * 1099523200000≤4 * 1099523200000:=Nat.mul_le_mul_right _ J;omega
 ·exact Nat.zero_le _
theorem akW {α:Type} (p:α→Bool) (xs:List α) (hl:(xs.length:Int)≤1048576):bi (1+pK p xs):=by
 have:=Nc (p:=p) xs;exact ⟨J,J⟩
theorem Yu {x:aU} {p:ai} (hl:(x.Z.length:Int)≤1048576) (hp:bi p.seq):(M7 x p).size≤20:=by
 have a:=bM (1+pK (iM p.on) x.Z) (akW _ _ hl);have b:=bM p.seq hp;unfold M7;rw [ByteArray.size_append];omega
theorem Ih (x:aU) (hx:∀h∈x.Z,(wS h).size≤4500000000000):∀k,k≤x.Z.length→(zn x k).size≤(UR x).size+k * 4500000000000
 | 0,_=>by simp [zn]
 | k+1,h=>by
   rw [QG J,ByteArray.size_append];have h1:=Ih x hx k J;have h2:=hx x.Z[k] (List.getElem_mem ..);omega
theorem TT (x:aU) (hx:∀p∈x.O,(Bg p.aS).size≤9000000000000) (hl:(x.Z.length:Int)≤1048576) (hs:∀p∈x.O,bi p.seq):∀k,k≤x.O.length→(Ig x k).size≤(RY x).size+k * 9000000000020
 | 0,_=>by simp [Ig]
 | k+1,h=>by
   rw [TU J,ByteArray.size_append];have h1:=TT x hx hl hs k J;have h2:=hx x.O[k] (List.getElem_mem ..);have h3:=Yu hl (hs x.O[k] (List.getElem_mem ..));unfold M8;rw [ByteArray.size_append];omega
theorem Z8 {x:aU} (h:iI x = true):(x.Z.length:Int)≤8∧(x.O.length:Int)≤12:=by
 unfold iI Em at h;simp only [Bool.and_eq_true,decide_eq_true_eq] at h;exact ⟨h.1.1,h.1.2.1⟩
theorem asz {α:Type} {ok:α→Bool} {less:α→α→Bool} {xs:List α} {k:Nat} (hk:k < xs.length) (h:bB ok less xs k = true):ok xs[k] = true:=by
 cases k with
 | zero=>rw [bR hk] at h;exact h
 | succ j=>rw [yS hk] at h;simp only [Bool.and_eq_true] at h;exact h.1
theorem aeF (x:aU) (cs:List Value) (F:List Nat) (p:ai) (ds:List Value) (G:List Nat) (w:World) (h:rd w x cs F) (hp:rd w p ds G) (hl:(x.Z.length:Int)≤1048576) :
 Calls Tryz.prog 30 #[.agg cs.toArray,.agg ds.toArray] w fun e w'=>e = .returned (.string (M7 x p))∧Below w.heap.size w w':=by
 have hI:=akW (iM p.on) x.Z hl;have ap:=Nc (p:=iM p.on) x.Z;have sU:=bM _ hI;have hwr:IntKind.i64.wrap (1+pK (iM p.on) x.Z) = 1+pK (iM p.on) x.Z:=by rw [IntKind.wrap_i64];omega
 have Wa:IntKind.i64.wrap (pK (iM p.on) x.Z+1) = 1+pK (iM p.on) x.Z:=by rw [IntKind.wrap_i64];omega
 have hr:=h;have hpr:=hp;obtain ⟨bG,bD,fQ,dn,bW,jg,aw,hF,bQ,dM,hnext,aV,aP,aW⟩:=aO hr;subst aw;obtain ⟨mZ,ng,DX,oL,oM,FC,jG,jH,wu,aw,ld,Ci,wR,EM,EN,Cj,yU,pF,OW,Zt⟩:=kE hpr;subst aw;clear hr hF hpr ld;have eE:=bM p.seq Zt;go_enter Tryz.func30,Tryz.ntmps30;go_wp2_with fail
 refine aF _ U' U' (aj _) ?_
 repeat (first
  | (apply aG
     case hw=>rfl
     simp only [Act.put,pz])
  | (apply aH
     case hw=>rfl
     case h =>
      intro wq hq;have dc:=(aB hq).1;have lJ:=(aB hq).2;go_simp
      first
       | exact ⟨hq,rfl⟩
       | exact ⟨aQ hq _,rfl⟩
       | (first | (refine (gK x _ _ p.on _ (aJ h (ah bs hq)) hl).mono ?_;rintro e wz ⟨rfl,nV⟩;exact ⟨rfl,aI hq nV⟩) | ((try rw [hwr]);(try rw [Wa]);refine (wE _ _ qe).mono ?_;rintro e wz ⟨rfl,nV⟩;exact ⟨rfl,aI hq nV⟩))
       | (simp only [↓IntWalk.iteOmega];exact ⟨hq,rfl⟩)
     simp only [Act.put,pz]))
 refine aN ?_;intro wn hn;replace hn:=hn.out;go_wp2;go_ret
 exact ⟨rfl,bs⟩
theorem aif (x:aU) (cs:List Value) (F:List Nat) (w:World) (h:rd w x cs F) (hw:(x.wt:Int)≤1048576) :
 Calls Tryz.prog 8 #[.agg cs.toArray] w fun e w'=>e = .returned (.string (JC x))∧Below w.heap.size w w':=by
 have fS:x.wt = kL az.wt x.Z+kL ai.wt x.O:=rfl;have cG:(x.Z.length:Int)≤1048576:=by have:=gJ az.wt x.Z;omega
 have vk:(x.O.length:Int)≤1048576:=by have:=gJ ai.wt x.O;omega
 have wv:=I (fun k (hk:k < x.Z.length)=>(show (az.wt x.Z[k]:Int)≤1048576 by have:=rM (f:=az.wt) hk;omega));have sY:=I (fun k (hk:k < x.O.length)=>(show (nI.wt x.O[k].aS:Int)≤1048576 by have:=rM (f:=ai.wt) hk;have e:ai.wt x.O[k] = nI.wt x.O[k].aS+x.O[k].on.size:=rfl;omega));have hr:=h;obtain ⟨bG,bD,fQ,dn,bW,jg,aw,hF,bQ,dM,hnext,aV,aP,aW⟩:=aO hr;subst aw;clear hF hr fS
 have Wk:=I (show ∀y∈x.Z,(wS y).size≤4500000000000 by
  intro y hy;obtain ⟨k,hk,rfl⟩:=List.getElem_of_mem hy;obtain ⟨b,o,ck,Fk,_,_,_,hr,_⟩:=bQ.get hk
  exact Yt hr (wv.out k hk))
 have HPS:=I (show ∀y∈x.O,(Bg y.aS).size≤9000000000000 by
  intro y hy;obtain ⟨k,hk,rfl⟩:=List.getElem_of_mem hy;obtain ⟨b,o,ck,Fk,_,_,_,hr,_⟩:=dM.get hk;obtain ⟨_,_,_,_,_,_,hpp,_⟩:=hr
  exact Z7 hpp (sY.out k hk))
 have HSQ:=I dM.Ec;cases hR:iI x with
 | false =>
   have HF:=I (show JC x = ⟨#[]⟩ by unfold JC;rw [hR];rfl);have HR:=I hR;clear hR;go_enter Tryz.func8,Tryz.ntmps8;go_wp2_with fail
   refine (qL x _ _ _ (aJ h bs) hw).mono ?_;exact qS
 | true =>
   have HF:=I (show JC x = Ig x x.O.length by unfold JC;rw [hR];rfl);have HR:=I hR;have HC:=HR;obtain ⟨Lz,LA⟩:=Z8 hR;clear hR;go_enter Tryz.func8,Tryz.ntmps8;go_wp2_with fail
   refine (qL x _ _ _ (aJ h bs) hw).mono ?_;rw [HR.out];rintro e w2 ⟨rfl,av⟩;obtain ⟨ce,cK⟩:=ay av;have cD:w.heap.size < w2.heap.size:=(sq av.size);have lV:=bM x.weights.pack aV;have mA:=bM x.weights.af aP;have M2:=bM x.weights.an aW;have M3:=bM x.next hnext;have CM:bi (x.Z.length:Int):=(by unfold bi;omega);have hlP:bi (x.O.length:Int):=(by unfold bi;omega);have M4:=bM x.Z.length CM;have M5:=bM x.O.length hlP;have B2:=I ((oG.new w [.slice bG x.Z.length bD,.slice dn x.O.length bW,.int .i64 x.next,.int .i64 x.weights.pack,.int .i64 x.weights.af,.int .i64 x.weights.an] 29).ext av);have eB:Below w.heap.size w w2:=bs;have VV:(UR x).size≤50:=by unfold UR;simp only [ByteArray.size_append];omega
   have HX:=I h;go_wp2_with fail
   refine aF w2 U' U' (aj _) ?_
   repeat (first
    | (apply aG
       case hw=>rfl
       simp only [Act.put,pz])
    | (apply aH
       case hw=>rfl
       case h =>
        intro wq hq;have dc:=(aB hq).1;have lJ:=(aB hq).2;go_simp
        first
         | exact ⟨hq,rfl⟩
         | exact ⟨aQ hq _,rfl⟩
         | (refine (wE _ _ qe).mono ?_;rintro e wz ⟨rfl,nV⟩;exact ⟨rfl,aI hq nV⟩)
         | (simp only [↓IntWalk.iteOmega];exact ⟨hq,rfl⟩)
       simp only [Act.put,pz]))
   refine aN ?_;intro wn hn;replace hn:=hn.out;have BN:=B2.out.ext hn;obtain ⟨d0,d1,d2,d3,d4,d5⟩:=cM BN;have Qq:Below w.heap.size w wn:=ah eB hn;go_wp2_with fail
   go_loopw [3,37] (fun s i wr=>∃k:Nat,k≤x.Z.length∧i = .int .i64 k∧s = .string (zn x k)∧oG wr w.heap.size [.slice bG x.Z.length bD,.slice dn x.O.length bW,.int .i64 x.next,.int .i64 x.weights.pack,.int .i64 x.weights.af,.int .i64 x.weights.an]∧Below w.heap.size w wr) (fun _ i _=>x.Z.length - (intOf i).toNat)
   case atStart=>exact ⟨0,Nat.zero_le _,rfl,rfl,BN,Qq⟩
   case round =>
    obtain ⟨k,hk,rfl,rfl,hBK,aE⟩:=hrel;have dm:w.heap.size < wr.heap.size:=hBK.lt;obtain ⟨wo,hwo⟩:∃wo,wo = wr:=⟨_,rfl⟩;subst hwo;obtain ⟨c0,c1,c2,c3,c4,c5⟩:=cM hBK;by_cases ap:k < x.Z.length
    ·obtain ⟨b,o,ck,Fk,rfl,o9,hbs,hr,bv,hc⟩:=(Sl.ext (w':=wo) (A:=bG) (c:=bD) bQ aE).get ap;have eN:=hr;obtain ⟨jM,jO,sN,jE,jF,sO,aw,su,zM,qY,Gt,Gw,xg,qA⟩:=iy eN;subst aw;obtain ⟨q0,q1,q2,q3,q4,q5⟩:=mE 6 hc;clear hc eN;have PE:=Ih x Wk.out k hk;have hhb:=Wk.out x.Z[k] (List.getElem_mem ..);have nv:k * 4500000000000≤8 * 4500000000000:=Nat.mul_le_mul_right _ J;have Jf:=I (QG ap);generalize hS:zn x k = S0 at Jf PE ⊢;go_wp2_with fail
     refine (XK x.Z[k] _ _ _ (aJ hr bs) (wv.out k ap)).mono ?_;rintro e CN ⟨rfl,j9⟩;go_wp2;exact ⟨⟨k+1,J,N',by rw [Jf.out],(hBK.ext (ak (aj _) _)).ext j9,ah (ak aE _) j9⟩,by simp [intOf];omega⟩
    ·have bx:k = x.Z.length:=J;subst bx;have PE:=Ih x Wk.out x.Z.length (Nat.le_refl _);have nv:x.Z.length * 4500000000000≤8 * 4500000000000:=Nat.mul_le_mul_right _ J;have M9:(RY x).size≤(zn x x.Z.length).size+10:=by
      unfold RY;rw [ByteArray.size_append];omega
     have HM:=I (show RY x = zn x x.Z.length++jD x.O.length from rfl);generalize hS:zn x x.Z.length = S0 at HM PE M9 ⊢;go_wp2_with fail
     refine (wE _ _ hlP).mono ?_;rintro e Nw ⟨rfl,gF⟩;have BM:=hBK.ext gF;obtain ⟨e0,e1,e2,e3,e4,e5⟩:=cM BM;have hBm:Below w.heap.size w Nw:=ah aE gF;go_wp2_with fail
     go_loopw [3,55] (fun s i wr=>∃k:Nat,k≤x.O.length∧i = .int .i64 k∧s = .string (Ig x k)∧oG wr w.heap.size [.slice bG x.Z.length bD,.slice dn x.O.length bW,.int .i64 x.next,.int .i64 x.weights.pack,.int .i64 x.weights.af,.int .i64 x.weights.an]∧Below w.heap.size w wr) (fun _ i _=>x.O.length - (intOf i).toNat)
     case atStart=>exact ⟨0,Nat.zero_le _,rfl,by rw [← HM.out];rfl,BM,hBm⟩
     case round =>
      obtain ⟨k,hk,rfl,rfl,hBL,alg⟩:=hrel;have hbz2:w.heap.size < wr.heap.size:=hBL.lt;obtain ⟨f0,f1,f2,f3,f4,f5⟩:=cM hBL;by_cases ap:k < x.O.length
      ·obtain ⟨b,o,ck,Fk,rfl,o9,hbs,hr,bv,hc⟩:=(Sl.ext (w':=wr) (A:=dn) (c:=bW) dM alg).get ap;have eN:=hr;have o8:=hr;obtain ⟨fC,fD,yD,gB,gG,AA,bT,bU,qI,aw,su,Dv,yE,FY,FZ,Dw,AB,qJ,aeg,Wv⟩:=kE eN;subst aw;obtain ⟨q0,q1,q2,q3,q4,q5,q6,q7,q8⟩:=oE 9 hc;clear hc eN;obtain ⟨yR,don,U4,Gon,hdc,hdG,kG,_⟩:=o8;have ku:rd wr x.O[k].aS [.string x.O[k].aS.name,.slice fC x.O[k].aS.labels.length fD,.int .i64 x.O[k].aS.ax,.int .i64 x.O[k].aS.mem,.int .i64 x.O[k].aS.aD,.slice gB x.O[k].aS.ag.length gG,.slice bT x.O[k].aS.ae.length bU] U4:=by
        exact mU
       clear hdc hdG kG;have HQ:=I ku;clear ku;have kD:=I alg;have Vv:=I hBL;have PE:=TT x HPS.out cG HSQ.out k hk;have hhb:=HPS.out x.O[k] (List.getElem_mem ..);have kR:=Yu (x:=x) (p:=x.O[k]) cG (HSQ.out _ (List.getElem_mem ..));have nv:k * 9000000000020≤12 * 9000000000020:=Nat.mul_le_mul_right _ J;have Jf:=I (TU ap);generalize hS:Ig x k = S0 at Jf PE ⊢;go_wp2_with fail
       refine aF _ U' U' (aj _) ?_
       repeat (first
        | (apply aG
           case hw=>rfl
           simp only [Act.put,pz])
        | (apply aH
           case hw=>rfl
           case h =>
            intro wq hq;have dc:=(aB hq).1;have lJ:=(aB hq).2;have BQ:=Vv.out.ext (ah bs hq);obtain ⟨q0,q1,q2,q3,q4,q5⟩:=cM BQ;go_simp
            first
             | exact ⟨hq,rfl⟩
             | exact ⟨aQ hq _,rfl⟩
             | (first | (refine (ZC x.O[k].aS _ _ _ (aJ HQ.out (ah bs hq)) (sY.out k ap)).mono ?_;rintro e wz ⟨rfl,nV⟩;exact ⟨rfl,aI hq nV⟩) | (refine (aeF x _ _ x.O[k] _ _ _ (aJ HX.out (ah kD.out (ah bs hq))) (aJ hr (ah bs hq)) cG).mono ?_;rintro e wz ⟨rfl,nV⟩;exact ⟨rfl,aI hq nV⟩))
             | (simp only [↓IntWalk.iteOmega];exact ⟨hq,rfl⟩)
           simp only [Act.put,pz]))
       refine aN ?_;intro wn5 YW;replace YW:=YW.out;go_wp2;exact ⟨⟨k+1,J,N',by rw [Jf.out];unfold M8;simp only [ByteArray.append_assoc],(hBL.ext (ak (aj _) _)).ext YW,ah (ak alg _) YW⟩,by simp [intOf];omega⟩
      ·have bx:k = x.O.length:=J;subst bx;go_wp2;go_ret
       exact ⟨by rw [HF.out];rfl,alg⟩
end Go.Proofs.YtjahcnjmjahbaaaGreat
