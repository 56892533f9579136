/- slices.CompactFunc at []Need. No condition. -/
import Derived.Test.YtkbkikggodlbbaaGreatCompK
import Derived.Test.YtkbkikggodlbbaaGreatValsB
import Derived.Test.YtkbkikggodlbbaaGreatRegionIx
import Derived.Deep.LoopGhost
import Derived.Laws.Cover1
namespace Go.Proofs.YtkbkikggodlbbaaGreat
open Go.ChangeShapes Go.WideShapes Go.ChangeAt Go.RowKit
set_option linter.unusedVariables false
set_option linter.unusedSimpArgs false
set_option maxHeartbeats 4000000
set_option maxRecDepth 100000
def neNeed (x y:Need):Bool:=!(Qa (W9 y x) == 0)
theorem neNeed_iff (x y:Need):neNeed x y = true↔x≠y:=by
 unfold neNeed;constructor
 ·rintro h rfl;have:Qa (W9 x x) = 0:=cpNeed.refl x;simp [this] at h
 ·intro h;cases h2:(Qa (W9 y x) == 0) with
  | false=>rfl
  | true =>exfalso;apply h;have h3:Qa (W9 y x) = 0:=(by simpa using h2);have h4:Qa (W9 y x) = - Qa (W9 x y):=cpNeed.anti x y;exact totNeed.tri x y (by simp;omega) (by simp;omega)
theorem closure_any (x y:Need) (cs ds:List Value) (F G:List Nat) (w:World) (h:rd w x cs F) (h':rd w y ds G) (hl:(x.values.length:Int)≤1048576) (hl':(y.values.length:Int)≤1048576) :
 Calls Tryz.prog 174 #[.agg cs.toArray,.agg ds.toArray] w fun e w'=>e = .returned (.bool (Qa (W9 x y) == 0))∧Below w.heap.size w w':=by
 have hC:∀wq,Below w.heap.size w wq→Calls Tryz.prog 172 #[.agg cs.toArray,.agg ds.toArray] wq fun e w'=>e = .returned (.int .i64 (Qa (W9 x y)))∧Below wq.heap.size wq w' :=
  fun wq hq=>UA x y cs ds F G wq (Dat.frame h (fun b hb'=>hq.block b (Dat.lt h b hb')) hq.size) (Dat.frame h' (fun b hb'=>hq.block b (Dat.lt h' b hb')) hq.size) hl hl'
 generalize Qa (W9 x y) = z at hC ⊢;obtain ⟨pX,pY,KG,hck,hF1,xO,hop1,wO⟩:=og h;obtain ⟨qO,qP,KL,jU,hF2,vC,hop2,zS⟩:=og h';subst hck jU;have HC:=I' hC;clear hC;go_enter Tryz.func174,Tryz.ntmps174;go_wp2_with fail
 refine (HC.out _ atS).mono ?_;rintro e w2 ⟨rfl,hb2⟩;go_wp2;go_ret
 exact ⟨rfl,atS⟩
theorem compNeed (xs:List Need) (A:Option Addr) (c:Nat) (F:List Nat) (w:World) (B:Nat) (h:Own w B xs [.slice A xs.length c] F) (hB:B≤w.heap.size) (hl:(xs.length:Int)≤1048576) (hok:∀x∈xs,(x.values.length:Int)≤1048576) :
 Calls Tryz.prog 173 #[.slice A xs.length c,.func (.func 174) #[] #[]] w fun e w'=>∃F',e = .returned (.slice A (kept neNeed xs xs.length).length c)∧Own w' B (kept neNeed xs xs.length) [.slice A (kept neNeed xs xs.length).length c] F'∧Below B w w':=by
 by_cases hne:xs = []
 ·subst hne;go_enter Tryz.func173,Tryz.ntmps173;go_wp2;go_ret
  exact ⟨F,rfl,h,.refl _ _⟩
 ·have hcap:=Sl.cap (α:=Need) h.rd;unfold maxLen at hcap;obtain ⟨hcap1,hcap2⟩:=hcap;obtain ⟨g,o,D,rfl,rfl,rfl,R⟩:=h.rowE hne;clear h hne;have HOK:=I' (show ∀e∈D,(e.x.values.length:Int)≤1048576 from fun e he=>hok e.x (List.mem_map.2 ⟨e,he,rfl⟩));clear hok;have hlm:(D.map El.x).length = D.length:=List.length_map ..;have HR:=I' (show kept neNeed (D.map El.x) D.length = (kept (fun x y:El Need=>neNeed x.x y.x) D D.length).map El.x from (kept_map El.x neNeed D D.length).symm);rw [hlm] at hcap1 hl ⊢;clear hlm;have hgl:=R.lt;have hbg:B≤g:=R.base g (List.mem_cons_self ..);have fin:∀(w':World),TabE w w' g o D D→(∀j,j < D.length→keepAt (fun x y:El Need=>neNeed x.x y.x) D j = true)→∃F',Ending.returned (.slice (some ⟨g,o,none⟩) D.length c) = .returned (.slice (some ⟨g,o,none⟩) (kept neNeed (D.map El.x) D.length).length c)∧Own w' B (kept neNeed (D.map El.x) D.length) [.slice (some ⟨g,o,none⟩) (kept neNeed (D.map El.x) D.length).length c] F'∧Below B w w':=fun w' ht ha=>by
   have e:kept neNeed (D.map El.x) D.length = D.map El.x:=(by rw [HR.out,kept_all ha,List.take_length]);exact Zac0
  have HF:=I' fin;clear fin;by_cases h2:D.length < 2
  ·go_enter Tryz.func173,Tryz.ntmps173;exact Zaeb
  ·go_enter Tryz.func173,Tryz.ntmps173;go_wp2;go_loopg [5] D.length (fun gh s3 wr=>∃k:Nat,1≤k∧k≤D.length∧D.length - k≤gh∧s3 = .int .i64 k∧TabE w wr g o D D∧Hid (∀j,j < k→keepAt (fun x y:El Need=>neNeed x.x y.x) D j = true))
   case atStart=>exact ⟨1,Nat.le_refl _,O',O',rfl,.start R,I' (keepAt_one _ _)⟩
   case round =>
    obtain ⟨k,hk1,hk,hg,rfl,hS,HA⟩:=hrel;by_cases hlt:k < D.length
    ·have hgr:g < wr.heap.size:=hS.plain.lt;obtain ⟨p,HP⟩:∃p,D[k]? = some p:=⟨_,List.getElem?_eq_getElem O'⟩;obtain ⟨q,HQ⟩:∃q,D[k - 1]? = some q:=⟨_,List.getElem?_eq_getElem O'⟩;have hmp:p∈D:=List.mem_of_getElem? HP;have hmq:q∈D:=List.mem_of_getElem? HQ;obtain ⟨Ap,cp,Fp,hckp,hFkp,_,_,_⟩:=og (R.rd p hmp);have HCp:=I' hckp;clear hckp hFkp;obtain ⟨Aq,cq,Fq,hckq,hFkq,_,_,_⟩:=og (R.rd q hmq);have HCq:=I' hckq;clear hckq hFkq;have Hp:=I' (show D[k]? = some p from HP);have Hq:=I' (show D[k - 1]? = some q from HQ);have p0:wr.cell? ⟨g,o+k * 3,none⟩ = some (.string p.x.key):=(by have:=hS.tab (k) p Hp.out 0 (.string p.x.key) (by rw [HCp.out];rfl);rwa [show o+(k) * Dat.size Need+0 = o+k * 3 by show o+(k) * 3+0 = _;omega] at this);have p1:wr.cell? ⟨g,o+k * 3+1,none⟩ = some (.int .i64 p.x.op):=(by have:=hS.tab (k) p Hp.out 1 (.int .i64 p.x.op) (by rw [HCp.out];rfl);rwa [show o+(k) * Dat.size Need+1 = o+k * 3+1 by show o+(k) * 3+1 = _;omega] at this);have p2:wr.cell? ⟨g,o+k * 3+2,none⟩ = some (.slice Ap p.x.values.length cp):=(by have:=hS.tab (k) p Hp.out 2 (.slice Ap p.x.values.length cp) (by rw [HCp.out];rfl);rwa [show o+(k) * Dat.size Need+2 = o+k * 3+2 by show o+(k) * 3+2 = _;omega] at this);have q0:wr.cell? ⟨g,o+(k - 1) * 3,none⟩ = some (.string q.x.key):=(by have:=hS.tab (k - 1) q Hq.out 0 (.string q.x.key) (by rw [HCq.out];rfl);rwa [show o+(k - 1) * Dat.size Need+0 = o+(k - 1) * 3 by show o+(k - 1) * 3+0 = _;omega] at this);have q1:wr.cell? ⟨g,o+(k - 1) * 3+1,none⟩ = some (.int .i64 q.x.op):=(by have:=hS.tab (k - 1) q Hq.out 1 (.int .i64 q.x.op) (by rw [HCq.out];rfl);rwa [show o+(k - 1) * Dat.size Need+1 = o+(k - 1) * 3+1 by show o+(k - 1) * 3+1 = _;omega] at this);have q2:wr.cell? ⟨g,o+(k - 1) * 3+2,none⟩ = some (.slice Aq q.x.values.length cq):=(by have:=hS.tab (k - 1) q Hq.out 2 (.slice Aq q.x.values.length cq) (by rw [HCq.out];rfl);rwa [show o+(k - 1) * Dat.size Need+2 = o+(k - 1) * 3+2 by show o+(k - 1) * 3+2 = _;omega] at this);have HPD:=I' HP;have HK:=I' (show keepAt (fun x y:El Need=>neNeed x.x y.x) D (k) = !(Qa (W9 p.x q.x) == 0) from keepAt_at O' HQ HP);clear HP HQ;have hwk:IntKind.i64.wrap ((k:Int) - 1) = ((k - 1:Nat):Int):=(by rw [IntWalk.i64_in _ O'];omega);have hk0:0≤((k - 1:Nat):Int):=O';have hk9:((k - 1:Nat):Int) < (D.length:Int):=O';have RW:=I' (show ∀e∈D,rd wr e.x e.cs e.F from fun e he=>Dat.frame (R.rd e he) (fun b hb=>hS.upd.block b (Dat.lt (R.rd e he) b hb) (fun hg=>by rw [List.mem_singleton] at hg;subst hg;exact R.free he hb)) hS.upd.size);have HARM:=I' (show ∀wq,Cls wr wq→Calls Tryz.prog 174 #[.agg #[.string p.x.key,.int .i64 p.x.op,.slice Ap p.x.values.length cp],.agg #[.string q.x.key,.int .i64 q.x.op,.slice Aq q.x.values.length cq]] wq (fun e w'=>e = .returned (.bool (Qa (W9 p.x q.x) == 0))∧Below wq.heap.size wq w') from fun wq hq=>closure_any p.x q.x _ _ p.F q.F wq (by have:=RW.out p hmp;rw [HCp.out] at this;exact Dat.frame this (fun b hb=>hq.out.block b (Dat.lt this b hb)) hq.out.size) (by have:=RW.out q hmq;rw [HCq.out] at this;exact Dat.frame this (fun b hb=>hq.out.block b (Dat.lt this b hb)) hq.out.size) (HOK.out p hmp) (HOK.out q hmq));cases hv:(Qa (W9 p.x q.x) == 0) with
     | true =>
       have HV:=I' hv;clear hv;go_wp2_with fail
       refine aF wr U' U' (aj _) ?_
       repeat (first
        | (apply aG
           case hw=>rfl
           simp only [Act.put,pz])
        | (apply aH
           case hw=>rfl
           case h =>exact Zabn
           simp only [Act.put,pz]))
       refine aN ?_;intro wn hn;replace hn:=hn.out;go_wp2_with fail
       go_loopg [5,7] D.length (fun gh s3 s5 wz=>∃(kk k2:Nat) (L:List (El Need)),s3 = .int .i64 kk∧s5 = .int .i64 k2∧1≤k2∧k+k2≤D.length∧D.length - (k+k2)≤gh∧TabE w wz g o D L∧Hid (Press (fun x y:El Need=>neNeed x.x y.x) D (k+k2) kk L))
       case atStart=>exact ⟨k,1,D,rfl,rfl,Nat.le_refl _,O',O',hS.ext hn,I' (Press.start hlt HA.out (by rw [HK.out,HV.out];rfl))⟩
       case round =>
        obtain ⟨kk,k2,L,rfl,rfl,h1,hle,hg2,hS2,HI⟩:=hrel;have hkk:=HI.out.lt;have hds:=HI.out.size;have hgz:g < wr.heap.size:=hS2.plain.lt;clear hmp hmq HCp HCq Hp Hq HPD p0 p1 p2 q0 q1 q2 RW HARM HK HV hwk hk0 hk9;by_cases hlt2:k+k2 < D.length
        ·obtain ⟨p,HP⟩:∃p,D[k+k2]? = some p:=⟨_,List.getElem?_eq_getElem O'⟩;obtain ⟨q,HQ⟩:∃q,D[k+k2 - 1]? = some q:=⟨_,List.getElem?_eq_getElem O'⟩;have hmp:p∈D:=List.mem_of_getElem? HP;have hmq:q∈D:=List.mem_of_getElem? HQ;obtain ⟨Ap,cp,Fp,hckp,hFkp,_,_,_⟩:=og (R.rd p hmp);have HCp:=I' hckp;clear hckp hFkp;obtain ⟨Aq,cq,Fq,hckq,hFkq,_,_,_⟩:=og (R.rd q hmq);have HCq:=I' hckq;clear hckq hFkq;have Hp:=I' (show L[k+k2]? = some p from (HI.out.high _ O').trans HP);have Hq:=I' (show L[k+k2 - 1]? = some q from (HI.out.high _ O').trans HQ);have p0:wr.cell? ⟨g,o+k * 3+k2 * 3,none⟩ = some (.string p.x.key):=(by have:=hS2.tab (k+k2) p Hp.out 0 (.string p.x.key) (by rw [HCp.out];rfl);rwa [show o+(k+k2) * Dat.size Need+0 = o+k * 3+k2 * 3 by show o+(k+k2) * 3+0 = _;omega] at this);have p1:wr.cell? ⟨g,o+k * 3+k2 * 3+1,none⟩ = some (.int .i64 p.x.op):=(by have:=hS2.tab (k+k2) p Hp.out 1 (.int .i64 p.x.op) (by rw [HCp.out];rfl);rwa [show o+(k+k2) * Dat.size Need+1 = o+k * 3+k2 * 3+1 by show o+(k+k2) * 3+1 = _;omega] at this);have p2:wr.cell? ⟨g,o+k * 3+k2 * 3+2,none⟩ = some (.slice Ap p.x.values.length cp):=(by have:=hS2.tab (k+k2) p Hp.out 2 (.slice Ap p.x.values.length cp) (by rw [HCp.out];rfl);rwa [show o+(k+k2) * Dat.size Need+2 = o+k * 3+k2 * 3+2 by show o+(k+k2) * 3+2 = _;omega] at this);have q0:wr.cell? ⟨g,o+k * 3+(k2 - 1) * 3,none⟩ = some (.string q.x.key):=(by have:=hS2.tab (k+k2 - 1) q Hq.out 0 (.string q.x.key) (by rw [HCq.out];rfl);rwa [show o+(k+k2 - 1) * Dat.size Need+0 = o+k * 3+(k2 - 1) * 3 by show o+(k+k2 - 1) * 3+0 = _;omega] at this);have q1:wr.cell? ⟨g,o+k * 3+(k2 - 1) * 3+1,none⟩ = some (.int .i64 q.x.op):=(by have:=hS2.tab (k+k2 - 1) q Hq.out 1 (.int .i64 q.x.op) (by rw [HCq.out];rfl);rwa [show o+(k+k2 - 1) * Dat.size Need+1 = o+k * 3+(k2 - 1) * 3+1 by show o+(k+k2 - 1) * 3+1 = _;omega] at this);have q2:wr.cell? ⟨g,o+k * 3+(k2 - 1) * 3+2,none⟩ = some (.slice Aq q.x.values.length cq):=(by have:=hS2.tab (k+k2 - 1) q Hq.out 2 (.slice Aq q.x.values.length cq) (by rw [HCq.out];rfl);rwa [show o+(k+k2 - 1) * Dat.size Need+2 = o+k * 3+(k2 - 1) * 3+2 by show o+(k+k2 - 1) * 3+2 = _;omega] at this);have HPD:=I' HP;have HK:=I' (show keepAt (fun x y:El Need=>neNeed x.x y.x) D (k+k2) = !(Qa (W9 p.x q.x) == 0) from keepAt_at O' HQ HP);clear HP HQ;have hwk:IntKind.i64.wrap ((k2:Int) - 1) = ((k2 - 1:Nat):Int):=(by rw [IntWalk.i64_in _ O'];omega);have hk0:0≤((k2 - 1:Nat):Int):=O';have hk9:((k2 - 1:Nat):Int) < ((D.length - k:Nat):Int):=O';have RW:=I' (show ∀e∈D,rd wr e.x e.cs e.F from fun e he=>Dat.frame (R.rd e he) (fun b hb=>hS2.upd.block b (Dat.lt (R.rd e he) b hb) (fun hg=>by rw [List.mem_singleton] at hg;subst hg;exact R.free he hb)) hS2.upd.size);have HARM:=I' (show ∀wq,Cls wr wq→Calls Tryz.prog 174 #[.agg #[.string p.x.key,.int .i64 p.x.op,.slice Ap p.x.values.length cp],.agg #[.string q.x.key,.int .i64 q.x.op,.slice Aq q.x.values.length cq]] wq (fun e w'=>e = .returned (.bool (Qa (W9 p.x q.x) == 0))∧Below wq.heap.size wq w') from fun wq hq=>closure_any p.x q.x _ _ p.F q.F wq (by have:=RW.out p hmp;rw [HCp.out] at this;exact Dat.frame this (fun b hb=>hq.out.block b (Dat.lt this b hb)) hq.out.size) (by have:=RW.out q hmq;rw [HCq.out] at this;exact Dat.frame this (fun b hb=>hq.out.block b (Dat.lt this b hb)) hq.out.size) (HOK.out p hmp) (HOK.out q hmq));cases hv:(Qa (W9 p.x q.x) == 0) with
         | true =>
           have HV:=I' hv;clear hv;go_wp2_with fail
           refine aF wr U' U' (aj _) ?_
           repeat (first
            | (apply aG
               case hw=>rfl
               simp only [Act.put,pz])
            | (apply aH
               case hw=>rfl
               case h =>exact Zabn
               simp only [Act.put,pz]))
           refine aN ?_;intro wm hn;replace hn:=hn.out;go_wp2;go_roundg (D.length - (k+(k2+1)))
           case measure=>omega
           case rel=>exact ⟨kk,k2+1,L,rfl,N',O',O',Nat.le_refl _,hS2.ext hn,I' (HI.out.skip (by rw [HK.out,HV.out];rfl))⟩
         | false =>
           have HV:=I' hv;clear hv;go_wp2_with fail
           refine aF wr U' U' (aj _) ?_
           repeat (first
            | (apply aG
               case hw=>rfl
               simp only [Act.put,pz])
            | (apply aH
               case hw=>rfl
               case h =>exact Zabn
               simp only [Act.put,pz]))
           refine aN ?_;intro wm hn;replace hn:=hn.out;have hS3:=hS2.ext hn;have hgm:g < wm.heap.size:=hS3.plain.lt;replace p0:=(hn.cell (p:=⟨g,o+k * 3+k2 * 3,none⟩) hgz).trans p0;replace p1:=(hn.cell (p:=⟨g,o+k * 3+k2 * 3+1,none⟩) hgz).trans p1;replace p2:=(hn.cell (p:=⟨g,o+k * 3+k2 * 3+2,none⟩) hgz).trans p2;have HPUT:=I' (hS3.put R (i:=kk) (by rw [hds];omega) hmp);obtain ⟨r,HRK⟩:∃r,L[kk]? = some r:=⟨_,List.getElem?_eq_getElem (by rw [hds];omega)⟩;have hmr:r∈D:=hS3.sub r (List.mem_of_getElem? HRK);obtain ⟨Ar,cr,Fr,hckr,hFkr,_,_,_⟩:=og (R.rd r hmr);have HCr:=I' hckr;clear hckr hFkr;have Hr:=I' HRK;clear HRK;have r0:wm.cell? ⟨g,o+kk * 3,none⟩ = some (.string r.x.key):=(by have:=hS3.tab (kk) r Hr.out 0 (.string r.x.key) (by rw [HCr.out];rfl);rwa [show o+(kk) * Dat.size Need+0 = o+kk * 3 by show o+(kk) * 3+0 = _;omega] at this);have r1:wm.cell? ⟨g,o+kk * 3+1,none⟩ = some (.int .i64 r.x.op):=(by have:=hS3.tab (kk) r Hr.out 1 (.int .i64 r.x.op) (by rw [HCr.out];rfl);rwa [show o+(kk) * Dat.size Need+1 = o+kk * 3+1 by show o+(kk) * 3+1 = _;omega] at this);have r2:wm.cell? ⟨g,o+kk * 3+2,none⟩ = some (.slice Ar r.x.values.length cr):=(by have:=hS3.tab (kk) r Hr.out 2 (.slice Ar r.x.values.length cr) (by rw [HCr.out];rfl);rwa [show o+(kk) * Dat.size Need+2 = o+kk * 3+2 by show o+(kk) * 3+2 = _;omega] at this);have rf0:wm.frozen? ⟨g,o+kk * 3,none⟩ = false:=hS3.plain.frozen _;have rf1:wm.frozen? ⟨g,o+kk * 3+1,none⟩ = false:=hS3.plain.frozen _;have rf2:wm.frozen? ⟨g,o+kk * 3+2,none⟩ = false:=hS3.plain.frozen _;go_wp2;go_roundg (D.length - (k+(k2+1)))
           case measure=>omega
           case rel=>exact ⟨kk+1,k2+1,L.set kk p,N',N',O',O',Nat.le_refl _,by have:=HPUT.out;rw [HCp.out] at this;exact this,I' (HI.out.keep HPD.out (by rw [HK.out,HV.out];rfl))⟩
        ·have hend:k+k2 = D.length:=O';have HZ:=I' hS2
         have hcl:∀ty,(Builtin.clear_ #[49] ty #[.slice (some ⟨g,o+kk * 3,none⟩) (D.length - kk) (c - kk)]).run Tryz.prog wr = .ok (.tuple #[]) (wr.setCells g (o+kk * 3) (Builtin.zeroCells (.agg #[.string ⟨#[]⟩,.int .i64 0,.slice none 0 0]:Value).cells (D.length - kk)).toList) :=
          fun ty=>run_clearK wr _ _ ty _ Tryz.underlying49 Tryz.zeroValue158 (show ∀u∈([.string ⟨#[]⟩,.int .i64 0,.slice none 0 0]:List Value),u.oneCell' = true by intro u hu;simp only [List.mem_cons,List.not_mem_nil,or_false] at hu;rcases hu with rfl | rfl | rfl <;> rfl) g _ _ _ O' (fun j hj=>by
           rw [Nat.add_assoc];refine HZ.out.isSome R ?_;have hj2:j < (D.length - kk) * 3:=hj;show kk * 3+j < L.length * 3
           rw [hds];omega) (fun j _=>HZ.out.plain.frozen _)
         generalize hzs:(Builtin.zeroCells (.agg #[.string ⟨#[]⟩,.int .i64 0,.slice none 0 0]:Value).cells (D.length - kk)).toList = zs at hcl;have hI:=HI.out;rw [hend] at hI;have HFI:=I' hI;clear hzs hI hS2;go_wp2;go_ret
         refine ⟨g :: (kept (fun x y:El Need=>neNeed x.x y.x) D D.length).flatMap El.F,?_,?_,(HZ.out.set_upd _ _).below (fun b hb=>by rw [List.mem_singleton.1 hb];exact hbg) hB⟩
         ·rw [HR.out,List.length_map,← HFI.out.at_];rfl
         ·rw [HR.out];exact HZ.out.pressed R HFI.out zs hcap1 hcap2
     | false =>
       have HV:=I' hv;clear hv;go_wp2_with fail
       refine aF wr U' U' (aj _) ?_
       repeat (first
        | (apply aG
           case hw=>rfl
           simp only [Act.put,pz])
        | (apply aH
           case hw=>rfl
           case h =>exact Zabn
           simp only [Act.put,pz]))
       refine aN ?_;intro wn hn;replace hn:=hn.out;go_wp2;go_roundg (D.length - (k+1))
       case measure=>omega
       case rel =>exact Zacy
    ·exact Zac6
end Go.Proofs.YtkbkikggodlbbaaGreat
