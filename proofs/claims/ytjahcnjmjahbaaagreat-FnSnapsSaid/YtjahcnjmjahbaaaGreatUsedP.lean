/- What a host's pods use, in plain Lean. No condition. -/
import Derived.Test.YtjahcnjmjahbaaaGreatLaw0
import Derived.Test.YtjahcnjmjahbaaaGreatToBase
import Derived.Test.YtjahcnjmjahbaaaGreatValCmp
namespace Go.Proofs.YtjahcnjmjahbaaaGreat
open Go.ChangeShapes Go.WideShapes Go.ChangeAt Go.RowKit
set_option linter.unusedVariables false
set_option linter.unusedSimpArgs false
set_option maxHeartbeats 2000000
set_option maxRecDepth 100000
theorem UI:∀(xs:List Int) (s t:Int),(∀x∈xs,bi x)→bi s→GZ xs s = some t→bi t
 | [],s,t,_,hs,h=>by simp only [GZ,Option.some.injEq] at h;subst h;exact hs
 | x :: xs,s,t,hx,hs,h=>by
   simp only [GZ] at h;cases e:GX s x with
   | none=>rw [e] at h;cases h
   | some m =>rw [e] at h;exact UI xs m t (fun y hy=>hx y (List.mem_cons_of_mem _ hy)) (PC e hs (hx x (List.mem_cons_self ..))) h
theorem aqt {xs:List nI} {a b:Int} (hx:∀p∈xs,bi p.ax∧bi p.mem) (h:vU xs = some (a,b)):bi a∧bi b:=by
 unfold vU at h;cases e1:GZ (xs.map nI.ax) 0 with
 | none=>rw [e1] at h;cases h
 | some m =>
   cases e2:GZ (xs.map nI.mem) 0 with
   | none=>rw [e1,e2] at h;cases h
   | some n =>
     rw [e1,e2] at h;simp only [Option.some.injEq,Prod.mk.injEq] at h;obtain ⟨rfl,rfl⟩:=h;have z:bi 0:=⟨J,J⟩;refine ⟨UI _ 0 _ (fun y hy=>?_) z e1,UI _ 0 _ (fun y hy=>?_) z e2⟩
     ·obtain ⟨p,hp,rfl⟩:=List.mem_map.1 hy;exact (hx p hp).1
     ·obtain ⟨p,hp,rfl⟩:=List.mem_map.1 hy;exact (hx p hp).2
theorem atL {nm:ByteArray} {xs:List ai} {p:nI} (h:p∈F7 nm xs):∃q∈xs,p = q.aS:=by
 unfold F7 at h;obtain ⟨q,hq,rfl⟩:=List.mem_map.1 h;exact ⟨q,(List.mem_filter.1 hq).1,rfl⟩
theorem Sl.ao8 {w:World} {xs:List ai} {A:Option Addr} {c:Nat} {F:List Nat} (h:Sl w xs A c F):∀p∈xs,bi p.aS.ax∧bi p.aS.mem:=by
 intro p hp;obtain ⟨k,hk,rfl⟩:=List.getElem_of_mem hp;obtain ⟨b,o,ck,Fk,_,_,_,hr,_⟩:=h.get hk;obtain ⟨gV,gW,lF,iR,iT,mV,dD,dF,iH,aw,hF,nY,iE,rF,rG,oZ,je,dN,eO,hseq⟩:=kE hr;exact ⟨rF,rG⟩
theorem UD {w:World} {xs:List ai} {A:Option Addr} {c:Nat} {F:List Nat} {nm:ByteArray} {a b:Int} (h:Sl w xs A c F) (hs:vU (F7 nm xs) = some (a,b)):bi a∧bi b :=
 aqt (fun p hp=>by obtain ⟨q,hq,rfl⟩:=atL hp;exact h.ao8 q hq) hs
theorem AX {nm:ByteArray} {xs:List ai} {a b:Int} (h:vU (F7 nm xs) = some (a,b)):KF nm xs = .tuple #[.int .i64 a,.int .i64 b,.int .i64 (F7 nm xs).length,.bool true]:=by unfold KF;rw [h]
theorem AV {nm:ByteArray} {xs:List ai} (h:vU (F7 nm xs) = none):KF nm xs = .tuple #[.int .i64 0,.int .i64 0,.int .i64 0,.bool false]:=by unfold KF;rw [h]
theorem Sl.xv {w:World} {xs:List ao} {A:Option Addr} {c:Nat} {F:List Nat} (h:Sl w xs A c F) {k:Nat} (hk:k < xs.length) :
 ∃b o,A = some ⟨b,o,none⟩∧b∈F∧b < w.heap.size∧w.cell? ⟨b,o+k * 2,none⟩ = some (.string xs[k].key)∧w.cell? ⟨b,o+k * 2+1,none⟩ = some (.string xs[k].value)∧xs[k].key.size≤maxLen∧xs[k].value.size≤maxLen:=by
 obtain ⟨b,o,ck,Fk,rfl,hb,ap,hr,_,hc⟩:=h.get hk;obtain ⟨rfl,rfl,h1,h2⟩:=vO hr;exact ⟨b,o,rfl,hb,ap,hc 0 _ rfl,hc 1 _ rfl,h1,h2⟩
def Fe (xs:List ao):ByteArray:=xs.foldl (fun s l=>s++(bc l.key++bc l.value)) (jD xs.length)
theorem FI {α β:Type} (f:β→α→β) (b:β) (xs:List α) (k:Nat) (h:k < xs.length):(xs.take (k+1)).foldl f b = f ((xs.take k).foldl f b) xs[k]:=by
 rw [List.take_succ_eq_append_getElem h,List.foldl_append];rfl
theorem Og (xs:List ao) (b:ByteArray) (hx:∀l∈xs,(l.key.size:Int)≤1048576∧(l.value.size:Int)≤1048576):∀k,k≤xs.length→((xs.take k).foldl (fun s l=>s++(bc l.key++bc l.value)) b).size≤b.size+k * 2097172
 | 0,_=>by simp
 | k+1,h=>by
   rw [FI _ _ _ _ J,ByteArray.size_append,ByteArray.size_append];have h1:=Og xs b hx k J;obtain ⟨h2,h3⟩:=hx xs[k] (List.getElem_mem ..);have h4:=iJ xs[k].key J;have h5:=iJ xs[k].value J;omega
theorem Md (xs:List ao) (A:Option Addr) (c:Nat) (F:List Nat) (w:World) (h:Sl w xs A c F) (hl:(xs.length:Int)≤1048576) (hx:∀l∈xs,(l.key.size:Int)≤1048576∧(l.value.size:Int)≤1048576) :
 Calls Tryz.prog 38 #[.slice A xs.length c] w fun e w'=>e = .returned (.string (Fe xs))∧Below w.heap.size w w':=by
 have hI:bi xs.length:=⟨J,J⟩;have hZ:=bM _ hI;have HX:=I hx;clear hx;go_enter Tryz.func38,Tryz.ntmps38;go_wp2_with (go_at_call 29;refine (wE _ _ hI).mono ?_;rintro e w1 ⟨rfl,bk⟩)
 go_loopw [3,11] (fun s i wr=>∃k:Nat,k≤xs.length∧i = .int .i64 k∧s = .string ((xs.take k).foldl (fun s l=>s++(bc l.key++bc l.value)) (jD xs.length))∧Below w.heap.size w wr) (fun _ i _=>xs.length - (intOf i).toNat)
 case atStart=>exact ⟨0,Nat.zero_le _,rfl,rfl,bk⟩
 case round =>
  obtain ⟨k,hk,rfl,rfl,aE⟩:=hrel;by_cases ap:k < xs.length
  ·obtain ⟨b,o,rfl,o9,hbs,Ck,hc1',P0,nt⟩:=(h.ext aE).xv ap;have eQ:=Og xs (jD xs.length) HX.out k hk;obtain ⟨Qt,Je⟩:=HX.out xs[k] (List.getElem_mem ..);have lV:=iJ xs[k].key J;have mA:=iJ xs[k].value J;have M1:=FI (fun s (l:ao)=>s++(bc l.key++bc l.value)) (jD xs.length) xs k ap;have VS:=I M1;clear M1;generalize hS:(xs.take k).foldl (fun s l=>s++(bc l.key++bc l.value)) (jD xs.length) = S at *;have HS:=I hS;clear hS;go_wp2_with fail
   refine aF _ U' U' ut ?_
   repeat (first
    | (apply aG
       case hw=>rfl
       simp only [Act.put,pz])
    | (apply aH
       case hw=>rfl
       case h =>
        intro wq hq;obtain ⟨dc,lJ⟩:=aB hq;go_simp
        first
         | exact ⟨hq,rfl⟩
         | exact ⟨aQ hq _,rfl⟩
         | (refine (zV _ _ J).mono ?_;rintro e w2 ⟨rfl,av⟩;exact ⟨rfl,aI hq av⟩)
         | (simp only [↓IntWalk.iteOmega];exact ⟨hq,rfl⟩)
       simp only [Act.put,pz]))
   refine aN ?_;intro wn hn;replace hn:=hn.out;have bA:Below wr.heap.size wr wn:=ah (ak (aj _) _) hn;clear hn;go_wp2;go_roundw
   case rel=>exact ⟨k+1,J,N',by rw [VS.out],ah aE bA⟩
   case measure=>simp [intOf];omega
  ·exact zF
theorem Mc (xs:List ao) (A:Option Addr) (c:Nat) (F:List Nat) (w:World) (h:Sl w xs A c F) (hl:(xs.length:Int)≤1048576) (hx:∀l∈xs,(l.key.size:Int)≤1048576∧(l.value.size:Int)≤1048576) :
 Calls Tryz.prog 132 #[.slice A xs.length c] w fun e w'=>e = .returned (.string (Fe xs))∧Below w.heap.size w w':=by
 have hI:bi xs.length:=⟨J,J⟩;have hZ:=bM _ hI;have HX:=I hx;clear hx;go_enter Tryz.func132,Tryz.ntmps132;go_wp2_with (go_at_call 81;refine (uP _ _ hI).mono ?_;rintro e w1 ⟨rfl,bk⟩)
 go_loopw [3,4] (fun s i wr=>∃k:Nat,k≤xs.length∧i = .int .i64 k∧s = .string ((xs.take k).foldl (fun s l=>s++(bc l.key++bc l.value)) (jD xs.length))∧Below w.heap.size w wr) (fun _ i _=>xs.length - (intOf i).toNat)
 case atStart=>exact ⟨0,Nat.zero_le _,rfl,rfl,bk⟩
 case round =>
  obtain ⟨k,hk,rfl,rfl,aE⟩:=hrel;by_cases ap:k < xs.length
  ·obtain ⟨b,o,rfl,o9,hbs,Ck,hc1',P0,nt⟩:=(h.ext aE).xv ap;have eQ:=Og xs (jD xs.length) HX.out k hk;obtain ⟨Qt,Je⟩:=HX.out xs[k] (List.getElem_mem ..);have lV:=iJ xs[k].key J;have mA:=iJ xs[k].value J;have M1:=FI (fun s (l:ao)=>s++(bc l.key++bc l.value)) (jD xs.length) xs k ap;have VS:=I M1;clear M1;generalize hS:(xs.take k).foldl (fun s l=>s++(bc l.key++bc l.value)) (jD xs.length) = S at *;clear hS;go_wp2_with fail
   refine aF _ U' U' ut ?_
   repeat (first
    | (apply aG
       case hw=>rfl
       simp only [Act.put,pz])
    | (apply aH
       case hw=>rfl
       case h =>
        intro wq hq;obtain ⟨dc,lJ⟩:=aB hq;go_simp
        first
         | exact ⟨hq,rfl⟩
         | exact ⟨aQ hq _,rfl⟩
         | (refine (zW _ _ J).mono ?_;rintro e w2 ⟨rfl,av⟩;exact ⟨rfl,aI hq av⟩)
         | (simp only [↓IntWalk.iteOmega];exact ⟨hq,rfl⟩)
       simp only [Act.put,pz]))
   refine aN ?_;intro wn hn;replace hn:=hn.out;go_wp2;go_roundw
   case rel=>exact ⟨k+1,J,N',by rw [VS.out,ByteArray.append_assoc],ah aE hn⟩
   case measure=>simp [intOf];omega
  ·exact zF
def Rt (nm:ByteArray) (x:aU) (p:nI):Int :=
 if pK (iM nm) x.Z < 0 then 0 else
 match x.Z[(pK (iM nm) x.Z).toNat]? with
 | none=>0
 | some h=>max 0 (100 - 25 * (BD p.ae 2 h.aT:Int))
theorem amY {nm:ByteArray} {x:aU} {p:nI} (h:pK (iM nm) x.Z = -1):Rt nm x p = 0:=by unfold Rt;rw [h];rfl
theorem aje {nm:ByteArray} {x:aU} {p:nI} {k:Nat} (hk:k < x.Z.length) (h:pK (iM nm) x.Z = k):Rt nm x p = max 0 (100 - 25 * (BD p.ae 2 x.Z[k].aT:Int)):=by
 unfold Rt;rw [h,if_neg J,Int.toNat_natCast,List.getElem?_eq_getElem hk]
theorem acy (n:Int) (w:World) (h:n≤100) (h0:-9223372036854775808≤n):Calls Tryz.prog 179 #[.int .i64 n,.int .i64 0,.int .i64 100] w fun e w'=>e = .returned (.int .i64 (max 0 n))∧w' = w:=by
 by_cases hn:n < 0
 ·rw [show max 0 n = 0 by omega];go_enter Tryz.func179,Tryz.ntmps179;go_wp2;go_ret
  exact ⟨rfl,rfl⟩
 ·rw [show max 0 n = n by omega];go_enter Tryz.func179,Tryz.ntmps179;go_wp2;go_ret
  exact ⟨rfl,rfl⟩
theorem ZI (x:aU) (p:nI) (cs ps:List Value) (F G:List Nat) (nm:ByteArray) (w:World) (h:rd w x cs F) (h':rd w p ps G) (hw:(x.wt:Int)≤1048576) (hJ:(p.wt:Int)≤1048576) :
 Calls Tryz.prog 153 #[.agg cs.toArray,.string nm,.agg ps.toArray] w fun e w'=>e = .returned (.int .i64 (Rt nm x p))∧Below w.heap.size w w':=by
 have fS:x.wt = kL az.wt x.Z+kL ai.wt x.O:=rfl;have u4:p.wt = p.name.size+kL ao.wt p.labels+kL ba.wt p.ag+kL bH.wt p.ae:=rfl;have cG:(x.Z.length:Int)≤1048576:=by have:=gJ az.wt x.Z;omega
 obtain ⟨fv,dT⟩:=FQ (xs:=p.ae) J;have Ux:=I dT;clear dT;obtain ⟨bG,bD,fQ,dn,bW,jg,aw,hF,bQ,dM,hnext,aV,aP,aW⟩:=aO h;obtain ⟨bY,bZ,iq,eU,eX,jV,bg,bn,dK,jU,hG,jW,dA,kQ,lg,lG,iO,bK⟩:=dL h';subst aw jU;rcases yg (iM nm) x.Z with hi | ⟨k,hk,hi⟩
 ·have HF:=I (amY (p:=p) hi);have HI:=I hi;clear hi;go_enter Tryz.func153,Tryz.ntmps153;go_wp2_with fail
  refine (gQ x _ _ nm _ (aJ h bs) cG).mono ?_;rw [HI.out];rintro e w2 ⟨rfl,av⟩;exact ej
 ·have HF:=I (aje (p:=p) hk hi);have HI:=I hi;clear hi;have dr:(kL iU.wt x.Z[k].aT:Int)≤1048576:=by
   have h1:=rM (f:=az.wt) hk;have h2:az.wt x.Z[k] = x.Z[k].name.size+kL ao.wt x.Z[k].labels+kL iU.wt x.Z[k].aT:=rfl;omega
  obtain ⟨kv,wN⟩:=BH dr;have HXS:=I wN;clear wN;have UO:=UN p.ae 2 x.Z[k].aT;obtain ⟨b,o,ck,Fk,rfl,o9,hbs,hr,bv,hc⟩:=Sl.get (α:=az) (A:=bG) (c:=bD) bQ hk;obtain ⟨jM,jO,sN,jE,jF,sO,aw,su,zM,qY,Gt,Gw,xg,qA⟩:=iy hr;subst aw;obtain ⟨q0,q1,q2,q3,q4,q5⟩:=mE 6 hc;clear hc;go_enter Tryz.func153,Tryz.ntmps153;go_wp2_with fail
  refine (gQ x _ _ nm _ (aJ h bs) cG).mono ?_;rw [HI.out];rintro e w2 ⟨rfl,av⟩;obtain ⟨ce,cK⟩:=ay av;have cD:w.heap.size+1 < w2.heap.size:=sq av.size;have mz:w.heap.size < w2.heap.size:=by omega
  have eB:Below w.heap.size w w2:=bs;replace q5:=r' eB q5 hbs;have uO:b < w2.heap.size:=by omega
  have L':∀wq,Below w.heap.size w wq→Calls Tryz.prog 180 #[.slice bg p.ae.length bn,.slice jE x.Z[k].aT.length jF,.int .i64 2] wq fun e w'=>e = .returned (.int .i64 (BD p.ae 2 x.Z[k].aT))∧Below wq.heap.size wq w' :=
   fun wq hq=>UQ p.ae x.Z[k].aT 2 _ _ _ _ _ _ _ _ _ (bK.ext hq) (qA.ext hq) rfl rfl fv kv Ux.out HXS.out
  have YP:=I L';clear L';generalize BD p.ae 2 x.Z[k].aT = z at YP HF UO;have th:(z:Int)≤1048576:=by omega
  have mB:IntKind.i64.wrap (25 * (z:Int)) = 25 * (z:Int):=IntWalk.i64_in _ J;have Cn:IntKind.i64.wrap (100 - 25 * (z:Int)) = 100 - 25 * (z:Int):=IntWalk.i64_in _ J;by_cases hpos:(100:Int) - 25 * (z:Int)≤0
  ·have hM:max 0 (100 - 25 * (z:Int)) = 0:=J;have HM:=I hM;clear hM;go_wp2_with fail
   refine aF w2 U' U' (aj _) ?_
   repeat ((first | refine aG X ?_ | refine aH _ X Ii ?_);simp only [Act.put,pz])
   refine aN ?_;intro wn hn;replace hn:=hn.out;go_wp2;go_ret
   exact ⟨by rw [HF.out,HM.out];rfl,ah eB hn⟩
  ·have hpos2:(0:Int) < 100 - 25 * (z:Int):=J;have hM:max 0 (100 - 25 * (z:Int)) = 100 - 25 * (z:Int):=J;have HM:=I hM;clear hM;have fp:(100:Int) - 25 * (z:Int)≤100:=J;go_wp2_with fail
   refine aF w2 U' U' (aj _) ?_
   repeat ((first | refine aG X ?_ | refine aH _ X Ii ?_);simp only [Act.put,pz])
   refine aN ?_;intro wn hn;replace hn:=hn.out;go_wp2;go_ret
   exact ⟨by rw [HF.out,HM.out] <;> first | rfl | (simp;omega),ah eB hn⟩
def ti (labels:List ao) (x:ba):Bool:=uh x &&
 (if x.op = 1 then (Df x.key labels).2&&MF (Df x.key labels).1 x.values
  else if x.op = 2 then !(Df x.key labels).2 || !MF (Df x.key labels).1 x.values
  else if x.op = 3 then (Df x.key labels).2 else !(Df x.key labels).2)
theorem apu {labels:List ao} {x:ba} (h:uh x = false):ti labels x = false:=by unfold ti;rw [h];rfl
theorem aiV {x:ba} (h:uh x = true):x.op = 1∨x.op = 2∨x.op = 3∨x.op = 4:=by
 unfold uh at h;exact qz
theorem abZ (labels:List ao) (x:ba) (A:Option Addr) (n c:Nat) (F:List Nat) (cs:List Value) (G:List Nat) (w:World) (h:Sl w labels A c F) (hn:n = labels.length) (h':rd w x cs G) (ek:(labels.length:Int)≤1048576)
 (kk:(x.key.size:Int)≤1048576) (hl:(x.values.length:Int)≤1048576) (cX:∀v∈x.values,(v.size:Int)≤1048576) :
 Calls Tryz.prog 222 #[.slice A n c,.agg cs.toArray] w fun e w'=>e = .returned (.bool (ti labels x))∧Below w.heap.size w w':=by
 subst hn;have Eo:=I cX;clear cX;have hr:=h';obtain ⟨jy,ji,Bo,aw,qp,ca,fj,kV⟩:=og hr;subst aw;clear qp hr;cases hK:uh x with
 | false =>
   have HF:=I (apu (labels:=labels) hK);have HK:=I hK;clear hK;go_enter Tryz.func222,Tryz.ntmps222;go_wp2_with fail
   refine (Rx x _ _ _ (aJ h' bs) kk hl Eo.out).mono ?_;rw [HK.out];rintro e w2 ⟨rfl,av⟩;exact ej
 | true =>
   have UP:=aiV hK
   have HU:=I (show ti labels x = (if x.op = 1 then (Df x.key labels).2&&MF (Df x.key labels).1 x.values
  else if x.op = 2 then !(Df x.key labels).2 || !MF (Df x.key labels).1 x.values
  else if x.op = 3 then (Df x.key labels).2 else !(Df x.key labels).2) by unfold ti;rw [hK,Bool.true_and])
   have HK:=I hK;clear hK;obtain ⟨v,t,hvt⟩:∃v t,Df x.key labels = (v,t):=⟨_,_,rfl⟩;have hu:=HU.out;rw [hvt] at hu;have HL:=I hvt;clear HU hvt;go_enter Tryz.func222,Tryz.ntmps222;go_wp2_with fail
   refine (Rx x _ _ _ (aJ h' bs) kk hl Eo.out).mono ?_;rw [HK.out];rintro e w2 ⟨rfl,av⟩;obtain ⟨ce,cK⟩:=ay av;have cD:w.heap.size < w2.heap.size:=(by have:=av.size;simp at this;omega);have Ul:w2.cell? ⟨w.heap.size,0,none⟩ = some (.string x.key):=(by rw [ce _ _ S',cell_of_row _ _ _ _ _ _ (heap_alloc_new w _)];rfl);have lV:w2.cell? ⟨w.heap.size,1,none⟩ = some (.int .i64 x.op):=(by rw [ce _ _ S',cell_of_row _ _ _ _ _ _ (heap_alloc_new w _)];rfl);have mA:w2.cell? ⟨w.heap.size,2,none⟩ = some (.slice jy x.values.length ji):=(by rw [ce _ _ S',cell_of_row _ _ _ _ _ _ (heap_alloc_new w _)];rfl);have eB:Below w.heap.size w w2:=bs;clear ce cK;go_wp2_with fail
   refine (akK labels x.key _ _ _ _ _ (h.ext eB) rfl ek).mono ?_;rw [HL.out];rintro e w3 ⟨rfl,bj⟩;replace lV:=r' bj lV cD;replace mA:=r' bj mA cD;have eK:w.heap.size < w3.heap.size:=(by have:=bj.size;omega);have eh:=ah eB bj;clear Ul;have HU:=I hu;clear hu;rcases UP with fj | fj | fj | fj
   all_goals
    have hu:=HU.out;rw [fj] at hu lV;simp only [Int.reduceEq,↓reduceIte] at hu;cases hh:MF v x.values <;> cases t
    all_goals
     have cR:=hu;try rw [hh] at cR
     have mI:=I cR;have HH:=I hh;clear cR hu hh fj;go_wp2_with (go_at_call 234;refine (aaG x.values v _ _ _ _ _ (kV.ext bs) rfl hl).mono ?_;rw [HH.out];rintro e w4 ⟨rfl,bO⟩)
     go_ret
     exact ⟨by rw [mI.out];rfl,bs⟩
def Hw (labels:List ao) (xs:List ba):Bool:=xs.all (ti labels)
theorem acu {labels:List ao} {xs:List ba} {k:Nat} (hk:k < xs.length) (h:ti labels xs[k] = false):Hw labels xs = false:=by
 unfold Hw;rw [List.all_eq_false];exact ⟨xs[k],List.getElem_mem ..,by simp [h]⟩
theorem amX {α:Type} {p:α→Bool} {xs:List α} {k:Nat} (hk:k < xs.length) (h:∀x∈xs.take k,p x = true) (hx:p xs[k] = true):∀x∈xs.take (k+1),p x = true:=by
 rw [List.take_succ_eq_append_getElem hk];intro x hm;rcases List.mem_append.1 hm with hm | hm
 ·exact h x hm
 ·simp only [List.mem_singleton] at hm;rw [hm];exact hx
theorem acv {labels:List ao} {xs:List ba} (h:∀x∈xs,ti labels x = true):Hw labels xs = true:=by
 unfold Hw;rw [List.all_eq_true];exact h
theorem alb (xs:List ba) (labels:List ao) (A B:Option Addr) (n m c d:Nat) (F G:List Nat) (w:World) (h:Sl w xs A c F) (h':Sl w labels B d G) (hn:n = xs.length) (hm:m = labels.length) (hl:(xs.length:Int)≤1048576) (ek:(labels.length:Int)≤1048576)
 (cX:(∀l∈xs,(l.key.size:Int)≤1048576∧(l.values.length:Int)≤1048576∧∀v∈l.values,(v.size:Int)≤1048576)) :
 Calls Tryz.prog 202 #[.slice A n c,.slice B m d] w fun e w'=>e = .returned (.bool (Hw labels xs))∧Below w.heap.size w w':=by
 subst hn hm;have Eo:=I cX;clear cX;go_enter Tryz.func202,Tryz.ntmps202;go_wp2_with fail
 go_loopw [5] (fun i wr=>∃k:Nat,k≤xs.length∧i = .int .i64 k∧Hid (∀x∈xs.take k,ti labels x = true)∧Below w.heap.size w wr) (fun i _=>xs.length - (intOf i).toNat)
 case atStart=>exact ⟨0,Nat.zero_le _,rfl,by show ∀_,_;simp,bs⟩
 case round =>
  obtain ⟨k,hk,rfl,HN,aE⟩:=hrel;by_cases ap:k < xs.length
  ·obtain ⟨b,o,ck,Fk,rfl,o9,hbs,hr,bv,hc⟩:=(Sl.ext (w':=wr) (A:=A) (c:=c) h aE).get ap;obtain ⟨jy,ji,Bo,aw,su,ca,fj,kV⟩:=og hr;subst aw;obtain ⟨q0,q1,q2⟩:=iX 3 hc;clear hc;obtain ⟨cJ,cE,hs3⟩:=Eo.out xs[k] (List.getElem_mem ..);cases hp:ti labels xs[k] with
   | true =>
     have Gn:=I (amX ap HN.out hp);have HP:=I hp;clear hp;go_wp2_with fail
     refine (abZ labels xs[k] _ _ _ _ _ _ _ (h'.ext bs) rfl (aJ hr bs) ek cJ cE hs3).mono ?_;rw [HP.out];rintro e wn ⟨rfl,hn⟩;exact Am
   | false =>
     have HF:=I (acu ap hp);have HP:=I hp;clear hp;go_wp2_with fail
     refine (abZ labels xs[k] _ _ _ _ _ _ _ (h'.ext bs) rfl (aJ hr bs) ek cJ cE hs3).mono ?_;rw [HP.out];rintro e wn ⟨rfl,hn⟩;exact ej
  ·have bx:k = xs.length:=J;subst bx;have hn:=HN.out;rw [List.take_length] at hn;have HF:=I (acv hn);clear hn;exact ej
end Go.Proofs.YtjahcnjmjahbaaaGreat
