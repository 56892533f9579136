/- HostOk, of the program and of the reference. No condition. -/
import Derived.Test.YtjahcnjmjahbaaaGreatUsedP
import Derived.Test.YtjahcnjmjahbaaaGreatTolsOk
import Derived.Test.YtjahcnjmjahbaaaGreatClone
namespace Go.Proofs.YtjahcnjmjahbaaaGreat
open Go.ChangeShapes Go.WideShapes Go.ChangeAt Go.RowKit
set_option linter.unusedVariables false
set_option linter.unusedSimpArgs false
set_option maxHeartbeats 8000000
set_option maxRecDepth 100000
def Aj (x:az):Bool:=Qs x.name&&sD x.labels&&La x.aT&&(decide (0≤x.ax)&&decide (0≤x.mem))&&(decide (1≤x.ar)&&decide (x.ar≤20))
theorem sQ (x:az) (cs:List Value) (F:List Nat) (w:World) (h:rd w x cs F) (pc:(x.name.size:Int)≤1048576) (ek:(x.labels.length:Int)≤1048576) (dB:∀l∈x.labels,(l.key.size:Int)≤1048576∧(l.value.size:Int)≤1048576) (fv:(x.aT.length:Int)≤1048576) (dT:∀l∈x.aT,(l.key.size:Int)≤1048576∧(l.value.size:Int)≤1048576) :
 Calls Tryz.prog 36 #[.agg cs.toArray] w fun e w'=>e = .returned (.bool (Aj x))∧Below w.heap.size w w':=by
 have Zb:=I dB;have Ux:=I dT;clear dB dT;have hr:=h;obtain ⟨gu,gy,jw,kJ,kK,qU,aw,hF,hname,dO,vg,cb,uI,jq⟩:=iy hr;subst aw;clear hr hF;go_enter Tryz.func36,Tryz.ntmps36
 go_wp2_with (first
  | (go_at_call 75;refine (Ro x.name _ pc).mono ?_;rintro e w2 ⟨rfl,av⟩;obtain ⟨ce,cK⟩:=ay av;have cD:w.heap.size < w2.heap.size:=(sq av.size))
  | (go_at_call 76;refine (Jv x.labels _ _ _ _ _ (dO.ext bs) rfl ek Zb.out).mono ?_;rintro e w3 ⟨rfl,bj⟩;obtain ⟨cP,hf3⟩:=ay bj;have eK:w.heap.size < w3.heap.size:=(sq bj.size))
  | (go_at_call 77;refine (ZK x.aT _ _ _ _ _ (jq.ext bs) rfl fv Ux.out).mono ?_;rintro e w4 ⟨rfl,bO⟩;obtain ⟨ei,hf4⟩:=ay bO;have Wy:w.heap.size < w4.heap.size:=(sq bO.size))
  | go_in)
 all_goals first
  | (go_ret;refine ⟨?_,bs⟩;refine congrArg (fun b=>Ending.returned (Value.bool b)) ?_;show (_:Bool) = _;(try clear ce cK);(try clear cP hf3);(try clear ei hf4);unfold Aj;first | (simp [*];done) | (simp [*];omega) | (simp_all;done) | (simp_all;omega))
  | skip
theorem rO (x:az) (cs:List Value) (F:List Nat) (w:World) (h:rd w x cs F) (pc:(x.name.size:Int)≤1048576) (ek:(x.labels.length:Int)≤1048576) (dB:∀l∈x.labels,(l.key.size:Int)≤1048576∧(l.value.size:Int)≤1048576) (fv:(x.aT.length:Int)≤1048576) (dT:∀l∈x.aT,(l.key.size:Int)≤1048576∧(l.value.size:Int)≤1048576) :
 Calls Tryz.prog 56 #[.agg cs.toArray] w fun e w'=>e = .returned (.bool (Aj x))∧Below w.heap.size w w':=by
 have Zb:=I dB;have Ux:=I dT;clear dB dT;have hr:=h;obtain ⟨gu,gy,jw,kJ,kK,qU,aw,hF,hname,dO,vg,cb,uI,jq⟩:=iy hr;subst aw;clear hr hF;go_enter Tryz.func56,Tryz.ntmps56
 go_wp2_with (first
  | (go_at_call 89;refine (Rq x.name _ pc).mono ?_;rintro e w2 ⟨rfl,av⟩;obtain ⟨ce,cK⟩:=ay av;have cD:w.heap.size < w2.heap.size:=(sq av.size))
  | (go_at_call 90;refine (Jw x.labels _ _ _ _ _ (dO.ext bs) rfl ek Zb.out).mono ?_;rintro e w3 ⟨rfl,bj⟩;obtain ⟨cP,hf3⟩:=ay bj;have eK:w.heap.size < w3.heap.size:=(sq bj.size))
  | (go_at_call 93;refine (ZL x.aT _ _ _ _ _ (jq.ext bs) rfl fv Ux.out).mono ?_;rintro e w4 ⟨rfl,bO⟩;obtain ⟨ei,hf4⟩:=ay bO;have Wy:w.heap.size < w4.heap.size:=(sq bO.size))
  | go_in)
 all_goals first
  | (go_ret;refine ⟨?_,bs⟩;refine congrArg (fun b=>Ending.returned (Value.bool b)) ?_;show (_:Bool) = _;(try clear ce cK);(try clear cP hf3);(try clear ei hf4);unfold Aj;first | (simp [*];done) | (simp [*];omega) | (simp_all;done) | (simp_all;omega))
  | skip
theorem tY (x:az) (cs:List Value) (F:List Nat) (w:World) (h:rd w x cs F) (hw:(x.wt:Int)≤1048576) :
 Calls Tryz.prog 36 #[.agg cs.toArray] w fun e w'=>e = .returned (.bool (Aj x))∧Below w.heap.size w w':=by
 have fS:x.wt = x.name.size+kL ao.wt x.labels+kL iU.wt x.aT:=rfl;obtain ⟨ek,dB⟩:=sW (xs:=x.labels) J;obtain ⟨fv,dT⟩:=BH (xs:=x.aT) J;exact sQ x cs F w h J ek dB fv dT
theorem tZ (x:az) (cs:List Value) (F:List Nat) (w:World) (h:rd w x cs F) (hw:(x.wt:Int)≤1048576) :
 Calls Tryz.prog 56 #[.agg cs.toArray] w fun e w'=>e = .returned (.bool (Aj x))∧Below w.heap.size w w':=by
 have fS:x.wt = x.name.size+kL ao.wt x.labels+kL iU.wt x.aT:=rfl;obtain ⟨ek,dB⟩:=sW (xs:=x.labels) J;obtain ⟨fv,dT⟩:=BH (xs:=x.aT) J;exact rO x cs F w h J ek dB fv dT
def Gs (s:ByteArray) (a:Int):iU × Int :=
 (⟨(dP s a).1,(dP s (dP s a).2).1,(fG s (dP s (dP s a).2).2).1⟩,(fG s (dP s (dP s a).2).2).2)
theorem Y0 {s:ByteArray} {a:Int} (h:a < 0):(fG s a).2 < 0:=by rw [QA h];decide
theorem IY {s:ByteArray} {most a:Int} (hm:0≤most) (h:a < 0):jC s most a = (0,-1):=by
 unfold jC;rw [QA h,if_pos hm,if_pos (by decide)]
theorem QJ {s:ByteArray} {a:Int} (h:a < 0):(Gs s a).2 < 0:=Y0 (EU (EU h))
def WM (s:ByteArray) (nm:ByteArray) (ls:List ao) (a:Int):az × Int :=
 (⟨nm,ls,(fG s a).1,(fG s (fG s a).2).1,(fG s (fG s (fG s a).2).2).1,
   (qX (Gs s) (jC s 4 (fG s (fG s (fG s a).2).2).2).1.toNat [] (jC s 4 (fG s (fG s (fG s a).2).2).2).2).1⟩,
  (qX (Gs s) (jC s 4 (fG s (fG s (fG s a).2).2).2).1.toNat [] (jC s 4 (fG s (fG s (fG s a).2).2).2).2).2)
theorem PZ {s nm:ByteArray} {ls:List ao} {a:Int} (h:a < 0):(WM s nm ls a).2 < 0:=by
 unfold WM;refine MP (fun a ha=>QJ ha) _ _ _ ?_;rw [IY (by decide) (Y0 (Y0 (Y0 h)))];decide
def xY (s:ByteArray) (a:Int):az × Int:=WM s (dP s a).1 (iF s (dP s a).2).1 (iF s (dP s a).2).2
def Ad (s:ByteArray) (a:Int):az × Int:=((xY s a).1,if Aj (xY s a).1 = true then (xY s a).2 else -1)
def Ib:az:=⟨⟨#[]⟩,[],0,0,0,[]⟩
def zf (s:ByteArray) (a:Int):az × Int:=if (Ad s a).2 < 0 then (Ib,-1) else Ad s a
def MB (t:iU):ByteArray:=bc t.key++bc t.value++jD t.al
def Oe (x:az):ByteArray:=bc x.name++Fe x.labels++jD x.ax++jD x.mem++jD x.ar++jD x.aT.length
def H8 (x:az) (k:Nat):ByteArray:=(x.aT.take k).foldl (fun s t=>s++MB t) (Oe x)
def wS (x:az):ByteArray:=if Aj x then H8 x x.aT.length else ⟨#[]⟩
theorem TJ {x:az} {k:Nat} (h:k < x.aT.length):H8 x (k+1) = H8 x k++MB x.aT[k]:=FI _ _ _ _ h
theorem aew {t:iU} (h1:(t.key.size:Int)≤1048576) (h2:(t.value.size:Int)≤1048576) (h3:bi t.al):(MB t).size≤2097182:=by
 have a:=iJ t.key J;have b:=iJ t.value J;have c:=bM t.al h3;unfold MB;rw [ByteArray.size_append,ByteArray.size_append];omega
theorem Rn (xs:List ao) (hl:(xs.length:Int)≤1048576) (hx:∀l∈xs,(l.key.size:Int)≤1048576∧(l.value.size:Int)≤1048576):((Fe xs).size:Int)≤2199045931018:=by
 exact IN
theorem Sl.ac9 {w:World} {xs:List iU} {A:Option Addr} {c:Nat} {F:List Nat} (h:Sl w xs A c F):∀t∈xs,bi t.al:=by
 intro p hp;obtain ⟨k,hk,rfl⟩:=List.getElem_of_mem hp;obtain ⟨b,o,ck,Fk,_,_,_,hr,_,_⟩:=h.get hk;obtain ⟨rfl,rfl,ca,kP,lD⟩:=oK hr;exact lD
theorem NH (x:az) (hx:∀t∈x.aT,(t.key.size:Int)≤1048576∧(t.value.size:Int)≤1048576) (hi:∀t∈x.aT,bi t.al):∀k,k≤x.aT.length→(H8 x k).size≤(Oe x).size+k * 2097182
 | 0,_=>by simp [H8]
 | k+1,h=>by
   rw [TJ J,ByteArray.size_append];have h1:=NH x hx hi k J;have h2:=aew (hx x.aT[k] (List.getElem_mem ..)).1 (hx x.aT[k] (List.getElem_mem ..)).2 (hi x.aT[k] (List.getElem_mem ..));omega
theorem XK (x:az) (cs:List Value) (F:List Nat) (w:World) (h:rd w x cs F) (hw:(x.wt:Int)≤1048576) :
 Calls Tryz.prog 10 #[.agg cs.toArray] w fun e w'=>e = .returned (.string (wS x))∧Below w.heap.size w w':=by
 have fS:x.wt = x.name.size+kL ao.wt x.labels+kL iU.wt x.aT:=rfl;obtain ⟨ek,dB⟩:=sW (xs:=x.labels) J;obtain ⟨fv,dT⟩:=BH (xs:=x.aT) J;have pc:(x.name.size:Int)≤1048576:=by omega
 have Zb:=I dB;have Ux:=I dT;clear dB dT;have hr:=h;obtain ⟨gu,gy,jw,kJ,kK,qU,aw,hF,hname,dO,vg,cb,uI,jq⟩:=iy hr;subst aw;clear hr hF;cases hR:Aj x with
 | false =>
   have bm:wS x = ⟨#[]⟩:=(by unfold wS;rw [hR];rfl);have HF:=I bm;have HR:=I hR;clear bm hR;go_enter Tryz.func10,Tryz.ntmps10;go_wp2_with fail
   refine (tY x _ _ _ (aJ h bs) hw).mono ?_;exact qS
 | true =>
   have bm:wS x = H8 x x.aT.length:=(by unfold wS;rw [hR];rfl);have HF:=I bm;have HR:=I hR;clear bm hR;go_enter Tryz.func10,Tryz.ntmps10;go_wp2_with fail
   refine (tY x _ _ _ (aJ h bs) hw).mono ?_;rw [HR.out];rintro e w2 ⟨rfl,av⟩;obtain ⟨ce,cK⟩:=ay av;have cD:w.heap.size < w2.heap.size:=(sq av.size);have lV:=iJ x.name J;have mA:=Rn x.labels ek Zb.out;have M2:=bM x.ax vg;have M3:=bM x.mem cb;have M4:=bM x.ar uI;have CM:bi (x.aT.length:Int):=(by unfold bi;omega);have M5:=bM x.aT.length CM;have uQ:w2.cell? ⟨w.heap.size,5,none⟩ = some (.slice kJ x.aT.length kK):=by exact qy
   have eB:Below w.heap.size w w2:=bs;have M6:=I jq.ac9;have VV:(Oe x).size≤2199046980000:=by unfold Oe;simp only [ByteArray.size_append];omega
   go_wp2_with fail
   refine aF w2 U' U' (aj _) ?_
   repeat ((first | refine aG X ?_ | refine aH _ X Hk ?_);simp only [Act.put,pz])
   refine aN ?_;intro wn hn;replace hn:=hn.out;have bA:wn.cell? ⟨w.heap.size,5,none⟩ = some (.slice kJ x.aT.length kK):=r' hn uQ cD;go_wp2_with fail
   go_loopw [3,36] (fun s i wr=>∃k:Nat,k≤x.aT.length∧i = .int .i64 k∧s = .string (H8 x k)∧wr.cell? ⟨w.heap.size,5,none⟩ = some (.slice kJ x.aT.length kK)∧Below w.heap.size w wr) (fun _ i _=>x.aT.length - (intOf i).toNat)
   case atStart=>exact ⟨0,Nat.zero_le _,rfl,rfl,bA,ah eB hn⟩
   case round =>
    obtain ⟨k,hk,rfl,rfl,bu,aE⟩:=hrel;have dm:w.heap.size < wr.heap.size:=World.block_lt_of_cell? wr _ bu;by_cases ap:k < x.aT.length
    ·obtain ⟨b,o,ck,Fk,rfl,o9,hbs,hr,bv,hc⟩:=(Sl.ext (w':=wr) (A:=kJ) (c:=kK) jq aE).get ap;obtain ⟨aw,su,adC,abS,KZ⟩:=oK hr;subst aw;obtain ⟨q0,q1,q2⟩:=iX 3 hc;clear hc;obtain ⟨cJ,cE⟩:=Ux.out x.aT[k] (List.getElem_mem ..);have Bi:=iJ x.aT[k].key J;have oo:=iJ x.aT[k].value J;have wh:=bM x.aT[k].al KZ;have PE:=NH x Ux.out M6.out k hk;have nv:k * 2097182≤1048576 * 2097182:=Nat.mul_le_mul_right _ J;have d':=TJ ap;have HN:=I d';clear d';generalize hS:H8 x k = S0 at HN PE ⊢;go_wp2_with fail
     refine aF _ U' U' (aj _) ?_
     repeat (first
      | (apply aG
         case hw=>rfl
         simp only [Act.put,pz])
      | (apply aH
         case hw=>rfl
         case h =>
          intro wq hq;have dc:=(aB hq).1;have lJ:=(aB hq).2;go_simp
          first
           | exact ⟨hq,rfl⟩
           | exact ⟨aQ hq _,rfl⟩
           | (first | (refine (zV _ _ J).mono ?_;rintro e wz ⟨rfl,nV⟩;exact ⟨rfl,aI hq nV⟩) | (refine (wE _ _ Y').mono ?_;rintro e wz ⟨rfl,nV⟩;exact ⟨rfl,aI hq nV⟩))
           | (simp only [↓IntWalk.iteOmega];exact ⟨hq,rfl⟩)
         simp only [Act.put,pz]))
     refine aN ?_;intro CN j9;replace j9:=j9.out;go_wp2;exact ⟨⟨k+1,J,N',by rw [HN.out];unfold MB;simp only [ByteArray.append_assoc],((ay j9).1 _ _ (by simp;omega)).trans ((World.cell?_of_block (heap_alloc_old wr _ dm)).trans bu),ah (ak aE _) j9⟩,by simp [intOf];omega⟩
    ·have bx:k = x.aT.length:=J;exact Ak
theorem aEt (D:List ByteArray) {w:World} {B e g aL:Nat} (h:w.ownsRow B e 1 (.slice (some ⟨g,0,none⟩) D.length aL) D.length (D.map Value.string)) (hr:∀x∈D,rd w x [.string x] []):∃A c G,Value.slice (some ⟨g,0,none⟩) D.length aL = .slice A D.length c∧am w B D [.slice A D.length c] G:=by
 have dq:∀D:List ByteArray,(∀x∈D,rd w x [.string x] [])→jo w D (D.map Value.string) []:=fun D=>by
  induction D with
  | nil=>intro _;exact ⟨rfl,rfl⟩
  | cons x D ih=>intro hD;exact ⟨[.string x],D.map Value.string,[],[],rfl,rfl,hD x (List.mem_cons_self ..),ih fun y hy=>hD y (List.mem_cons_of_mem _ hy)⟩
 exact Ju
theorem aJU (xs:List ByteArray) (A:Option Addr) (c:Nat) (F:List Nat) (w:World) (h:Sl w xs A c F) (hl:(xs.length:Int)≤1048576) :
 Calls Tryz.prog 231 #[.slice A xs.length c] w fun e w'=>∃A' c' G,e = .returned (.slice A' (gf xs).length c')∧am w' w.heap.size (gf xs) [.slice A' (gf xs).length c'] G∧Below w.heap.size w w'∧eI w' w.heap.size 9 1 A' c':=by
 have qr:=I (show ∀x∈xs,∀w':World,rd w' x [.string x] [] from fun x hx w'=>by
  obtain ⟨k,hk,rfl⟩:=List.getElem_of_mem hx;obtain ⟨b,o,ck,Fk,_,_,_,hr,_,_⟩:=h.get hk;obtain ⟨h1,h2,h3⟩:=hr
  exact ⟨rfl,rfl,h3⟩)
 go_enter Tryz.func231,Tryz.ntmps231;go_wp2_with fail
 go_loopw [3,4] (fun v i wr=>∃k N g aL:Nat,k≤xs.length∧N≤k∧i = .int .i64 (k:Int)∧v = .slice (some ⟨g,0,none⟩) N aL∧Hid ((gf (xs.take k)).length = N)∧wr.ownsRow w.heap.size 9 1 (.slice (some ⟨g,0,none⟩) N aL) N ((gf (xs.take k)).map Value.string)∧Below w.heap.size w wr) (fun _ i _=>xs.length - (intOf i).toNat)
 case atStart=>exact ⟨0,0,w.heap.size,0,J,Nat.le_refl _,rfl,rfl,I rfl,D9 w 9 1 w.heap.size rfl,ak (aj _) _⟩
 case round =>
  obtain ⟨k,N,g,aL,hk,hNk,rfl,rfl,cZ,bI,aE⟩:=hrel;by_cases ap:k < xs.length
  ·obtain ⟨wo,hwo⟩:∃wo,wo = wr:=⟨_,rfl⟩;subst hwo;obtain ⟨b,o,ck,Fk,hA,hbG,hbs,aJe,_,hcells⟩:=Sl.get h ap;subst hA;have d':gf (xs.take (k+1)) = eJ blt xs[k] (gf (xs.take k)):=(by unfold gf;rw [List.take_succ_eq_append_getElem ap,EP]);obtain ⟨y,hy⟩:∃y,xs[k] = y:=⟨_,rfl⟩;rw [hy] at aJe d';obtain ⟨aw,_,_⟩:=aJe;subst aw;have k0:wo.cell? ⟨b,o+k,none⟩ = some (.string y):=r' aE (by have:=hcells 0 _ rfl;simpa [show bd.size ByteArray = 1 from rfl] using this) hbs;have Jf:=I d';clear hcells hy d';generalize gf (xs.take k) = SS at *;obtain ⟨pM,eD,mq,hgc⟩:=IE bI;have PL:w.heap.size≤wo.heap.size:=aE.size;have ex:b < wo.heap.size:=J;have lf:=I hgc;have gM:=I bI;have e9:=I aE;clear hgc bI aE;go_wp2_with fail
   go_loopw [5] (fun j wr=>∃(s1 s2:List ByteArray) (jj:Nat),Hid (SS = s1++s2)∧j = .int .i64 (jj:Int)∧Hid (s1.length = jj)∧Hid (∀z∈s1,blt z y = true)∧Below wo.heap.size wo wr) (fun j _=>N - (intOf j).toNat)
   case atStart=>exact ⟨[],SS,0,I rfl,rfl,I rfl,I (fun z hz=>by cases hz),aj _⟩
   case round =>
    obtain ⟨s1,s2,jj,HE,rfl,HJ,HN,bS⟩:=hrel;have mc:∀bq oq u,wo.cell? ⟨bq,oq,none⟩ = some u→bq < wo.heap.size→wr.cell? ⟨bq,oq,none⟩ = some u:=fun bq oq u h1 h2=>(bS.cell (p:=⟨bq,oq,none⟩) h2).trans h1;replace k0:=mc _ _ _ k0 ex;have MC:=I mc;have ot:wo.heap.size≤wr.heap.size:=bS.size;have m9:b < wr.heap.size:=J;have mi:g < wr.heap.size:=J;clear mc;cases s2 with
    | nil =>
      have gm:jj = N:=(by have e1:=HE.out;have e2:=cZ.out;have e3:=HJ.out;rw [e1,List.append_nil] at e2;omega);have pe:N≤jj:=J;have pg:decide ((jj:Int) < (N:Int)) = false:=(by simp;omega);have ph:decide (jj < N) = false:=(by simp;omega);clear gm;have HI:=I (show eJ blt y (SS) = s1++y :: [] by rw [HE.out];exact Od s1 HN.out);go_wp2_with fail
      refine aF wr U' U' (aj _) ?_
      repeat ((first | refine aG X ?_ | refine aH _ X dC ?_);simp only [Act.put,pz])
      refine aN ?_;intro wm hn;replace hn:=hn.out;have ia:Below wo.heap.size wo wm:=ah bS hn;have ib:g < wm.heap.size:=(by have:=hn.size;omega);have ic:b < wm.heap.size:=(by have:=hn.size;omega);replace k0:=r' hn k0 ep;clear bS hn;obtain ⟨bS,m9,mi⟩:Below wo.heap.size wo wm∧b < wm.heap.size∧g < wm.heap.size:=⟨ia,ic,ib⟩;clear ia ic ib;go_wp2_with fail
      refine aF wm U' U' (aj _) ?_
      repeat ((first | refine aG X ?_ | refine aH _ X dC ?_);simp only [Act.put,pz])
      refine aN ?_;intro wn hn;replace hn:=hn.out;have bA:Below wo.heap.size wo wn:=ah bS hn;have ly:=I (show Below w.heap.size w wn from ah e9.out bA);have RJ:=mG gM.out bA;obtain ⟨_,e',apy,V4⟩:=IE RJ
      have et:=I (show ∀q u,((s1).map Value.string)[q]? = some u→wn.cell? ((⟨g,0,none⟩:Addr).add q) = some u from fun q u hu=>by
       rw [Addr.add_lit,Nat.zero_add];refine V4 q u ?_
       rw [HE.out,List.map_append,List.getElem?_append_left (List.getElem?_eq_some_iff.1 hu).1];exact hu)
      have Gn:=I (show ∀q u,((([]:List ByteArray)).map Value.string)[q]? = some u→wn.cell? ⟨g,jj+q,none⟩ = some u from fun q u hu=>by
       refine V4 (jj+q) u ?_
       rw [HE.out,List.map_append,List.getElem?_append_right AP,List.length_map,HJ.out,Nat.add_sub_cancel_left];exact hu)
      have dx:jj+(([]:List ByteArray)).length = N:=(by have e1:=congrArg List.length HE.out;have e2:=cZ.out;have e3:=HJ.out;rw [List.length_append] at e1;omega);have nU:jj≤N:=J;have ov:jj≤aL:=J;replace k0:=r' hn k0 ep;have ow:b < wn.heap.size:=(by have:=hn.size;omega);have gU:=I dx;have jh:=I bA;clear RJ V4 dx bA;go_wp2_with fail
      refine zU wn 12 U' U' (aj _) ?_;refine YU (fun a0 a' w'=>∃(g9 p9:Nat) (de df dg di dj dk dl dz ey ez:Value),a' = (Act.put (Act.put (Act.put (Act.put (Act.put (Act.put (Act.put (Act.put (Act.put (Act.put (Act.put (Act.put a0 (some 46) (de)) (some 47) (df)) (some 48) (dg)) (some 49) (di)) (some 50) (dj)) (some 51) (dk)) (some 52) (dl)) (some 53) (dz)) (some 54) (ey)) (some 55) (ez)) (some 56) (.slice (some ⟨g9,0,none⟩) (jj+1) p9)) (some 6) (.slice (some ⟨g9,0,none⟩) (jj+1) p9))∧Below wn.heap.size wn w'∧World.ownsRow w' wn.heap.size 9 1 (.slice (some ⟨g9,0,none⟩) (jj+1) p9) (jj+1) (((s1).map Value.string)++[.string y])) ?_ ?_;rotate_left
      ·exact JU
      intro a' w7 ff;obtain ⟨g9,p9,de,df,dg,di,dj,dk,dl,dz,ey,ez,rfl,bF,nK⟩:=ff;try simp only [Act.put,pz]
      have cU:∃A0:Addr,(if aL = jj then some (⟨g,0,none⟩:Addr) else some ⟨g,jj,none⟩) = some A0∧Hid (A0.block = g∧∀q u,((([]:List ByteArray)).map Value.string)[q]? = some u→w7.cell? (A0.add q) = some u):=by exact Kv
      obtain ⟨A0,hA0,asg⟩:=cU;have bx:N - jj = (([]:List ByteArray)).length:=(by have:=gU.out;omega);have mF:=I bx;clear bx
      go_wp2_with (
       at_builtin
       go_must (refine xW qw X _ _ X w7 wn.heap.size _ _ _ nK X A0 0 (aL - jj) ((([]:List ByteArray)).map Value.string) X X asg.out.2 (fun u hu=>by obtain ⟨z0,_,rfl⟩:=List.mem_map.1 hu;rfl) J J kI ?_)
       intro v8 w8 Le cW kq;rw [show jj+1+0 = N+1 by omega] at Le;obtain ⟨g8,p8,hv8,aJs,aJt,aJu⟩:=wW Le J
       subst hv8)
      exact Kk
    | cons z s2 =>
      have gm:jj < N:=(by have e1:=congrArg List.length HE.out;have e2:=cZ.out;have e3:=HJ.out;rw [List.length_append,List.length_cons] at e1;omega);have z0:wr.cell? ⟨g,jj,none⟩ = some (.string z):=MC.out _ _ _ (lf.out jj _ Sp) eD;have pg:decide ((jj:Int) < (N:Int)) = true:=(by simp;omega);cases hL:Op.bytesLess z.toList y.toList with
      | true =>have HL:=I (show blt z y = true from hL);exact Ke
      | false =>
        have HL:=I (show blt z y = false from hL);go_wp2_with fail
        refine aF wr U' U' (aj _) ?_
        repeat ((first | refine aG X ?_ | refine aH _ X dC ?_);simp only [Act.put,pz])
        refine aN ?_;intro wm hn;replace hn:=hn.out;have ia:Below wo.heap.size wo wm:=ah bS hn;have ib:g < wm.heap.size:=(by have:=hn.size;omega);have ic:b < wm.heap.size:=(by have:=hn.size;omega);replace k0:=r' hn k0 ep;replace z0:=r' hn z0 qV;clear bS hn;obtain ⟨bS,m9,mi⟩:Below wo.heap.size wo wm∧b < wm.heap.size∧g < wm.heap.size:=⟨ia,ic,ib⟩;clear ia ic ib;clear hL;cases hE:(z.toList == y.toList) with
        | true =>
          have HI:=I (show eJ blt y (SS) = SS by rw [HE.out];exact Oh s1 s2 HN.out HL.out (by rw [Ce hE];exact BW.DE y));go_wp2_with fail
          refine aF wm U' U' (aj _) ?_
          repeat ((first | refine aG X ?_ | refine aH _ X dC ?_);simp only [Act.put,pz])
          refine aN ?_;intro wn hn;replace hn:=hn.out;exact Ir
        | false =>
          have HG:=I (show blt y z = true by
           cases hh:blt y z with
           | true=>rfl
           | false=>have:=BW.N9 z y HL.out hh;rw [this] at hE;simp at hE)
          have HI:=I (show eJ blt y (SS) = s1++y :: (z :: s2) by rw [HE.out];exact Of s1 s2 HN.out HL.out HG.out);go_wp2_with fail
          refine aF wm U' U' (aj _) ?_
          repeat ((first | refine aG X ?_ | refine aH _ X dC ?_);simp only [Act.put,pz])
          refine aN ?_;intro wn hn;replace hn:=hn.out;clear hE;have bA:Below wo.heap.size wo wn:=ah bS hn;have ly:=I (show Below w.heap.size w wn from ah e9.out bA);have RJ:=mG gM.out bA;obtain ⟨_,e',apy,V4⟩:=IE RJ
          have et:=I (show ∀q u,((s1).map Value.string)[q]? = some u→wn.cell? ((⟨g,0,none⟩:Addr).add q) = some u from fun q u hu=>by
           rw [Addr.add_lit,Nat.zero_add];refine V4 q u ?_
           rw [HE.out,List.map_append,List.getElem?_append_left (List.getElem?_eq_some_iff.1 hu).1];exact hu)
          have Gn:=I (show ∀q u,((z :: s2).map Value.string)[q]? = some u→wn.cell? ⟨g,jj+q,none⟩ = some u from fun q u hu=>by
           refine V4 (jj+q) u ?_
           rw [HE.out,List.map_append,List.getElem?_append_right AP,List.length_map,HJ.out,Nat.add_sub_cancel_left];exact hu)
          have dx:jj+(z :: s2).length = N:=(by have e1:=congrArg List.length HE.out;have e2:=cZ.out;have e3:=HJ.out;rw [List.length_append] at e1;omega);have nU:jj≤N:=J;have ov:jj≤aL:=J;have PM:¬aL = jj:=J;replace k0:=r' hn k0 ep;have ow:b < wn.heap.size:=(by have:=hn.size;omega);have gU:=I dx;have jh:=I bA;clear RJ V4 dx bA;go_wp2_with fail
          refine zU wn 12 U' U' (aj _) ?_;refine YU (fun a0 a' w'=>∃(g9 p9:Nat) (de df dg di dj dk dl dz ey ez:Value),a' = (Act.put (Act.put (Act.put (Act.put (Act.put (Act.put (Act.put (Act.put (Act.put (Act.put (Act.put (Act.put a0 (some 46) (de)) (some 47) (df)) (some 48) (dg)) (some 49) (di)) (some 50) (dj)) (some 51) (dk)) (some 52) (dl)) (some 53) (dz)) (some 54) (ey)) (some 55) (ez)) (some 56) (.slice (some ⟨g9,0,none⟩) (jj+1) p9)) (some 6) (.slice (some ⟨g9,0,none⟩) (jj+1) p9))∧Below wn.heap.size wn w'∧World.ownsRow w' wn.heap.size 9 1 (.slice (some ⟨g9,0,none⟩) (jj+1) p9) (jj+1) (((s1).map Value.string)++[.string y])) ?_ ?_;rotate_left
          ·exact JU
          intro a' w7 ff;obtain ⟨g9,p9,de,df,dg,di,dj,dk,dl,dz,ey,ez,rfl,bF,nK⟩:=ff;try simp only [Act.put,pz]
          have bx:N - jj = (z :: s2).length:=(by have:=gU.out;omega);have mF:=I bx;clear bx
          go_wp2_with (
           at_builtin
           go_must (refine xW qw X _ _ X w7 wn.heap.size _ _ _ nK X ⟨g,jj,none⟩ (N - jj) (aL - jj) ((z :: s2).map Value.string) X Pn (fun q u hu=>by rw [Addr.add_lit];exact (bF.cell (p:=⟨g,jj+q,none⟩) e').trans (Gn.out q u hu)) (fun u hu=>by obtain ⟨z0,_,rfl⟩:=List.mem_map.1 hu;rfl) J J kI ?_)
           intro v8 w8 Le cW kq;rw [show jj+1+(N - jj) = N+1 by omega] at Le;obtain ⟨g8,p8,hv8,aJs,aJt,aJu⟩:=wW Le J
           subst hv8)
          exact Kk
  ·have bx:k = xs.length:=J;subst bx;rw [List.take_length] at bI cZ;rw [← cZ.out] at bI;obtain ⟨A4,c4,G4,hv4,kr⟩:=aEt (gf xs) bI (fun x hx=>qr.out x (aA4 hx) wr);rw [cZ.out] at hv4;simp only [Value.slice.injEq,true_and] at hv4;obtain ⟨uW,ei⟩:=hv4;subst uW ei;have kB:=I kr;have lz:=I (eI.oJ bI (Nat.le_refl _));clear bI kr;go_wp2;go_ret
   exact ⟨some ⟨g,0,none⟩,aL,G4,by rw [cZ.out];try rfl,kB.out,aE,lz.out⟩
theorem aAw (xs:List ByteArray) (A:Option Addr) (c:Nat) (F:List Nat) (w:World) (h:Sl w xs A c F) (hl:(xs.length:Int)≤1048576) :
 Calls Tryz.prog 231 #[.slice A xs.length c] w fun e w'=>∃A' c' G,e = .returned (.slice A' (gf xs).length c')∧am w' w.heap.size (gf xs) [.slice A' (gf xs).length c'] G∧Below w.heap.size w w' :=
 (aJU xs A c F w h hl).mono fun _ _ ⟨A',c',G,a,b,d,_⟩=>⟨A',c',G,a,b,d⟩
end Go.Proofs.YtjahcnjmjahbaaaGreat
