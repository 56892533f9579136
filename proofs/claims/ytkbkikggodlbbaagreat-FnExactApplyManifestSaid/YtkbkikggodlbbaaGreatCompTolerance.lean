/- slices.Compact at []Tolerance. No condition. -/
import Derived.Test.YtkbkikggodlbbaaGreatCompK
import Derived.Test.YtkbkikggodlbbaaGreatEq
import Derived.Test.YtkbkikggodlbbaaGreatRegionIx
import Derived.Deep.LoopGhost
import Derived.Laws.Cover1
namespace Go.Proofs.YtkbkikggodlbbaaGreat
open Go.ChangeShapes Go.WideShapes Go.ChangeAt Go.RowKit
set_option linter.unusedVariables false
set_option linter.unusedSimpArgs false
set_option maxHeartbeats 4000000
set_option maxRecDepth 100000
def neTolerance (x y:bH):Bool:=!(oP y x)
theorem neTolerance_iff (x y:bH):neTolerance x y = true↔x≠y:=by
 unfold neTolerance;cases h:oP y x with
 | true=>have:=(WC y x).1 h;simp [this]
 | false=>simp only [Bool.not_false,true_iff];rintro rfl;rw [(WC x x).2 rfl] at h;cases h
theorem compTolerance (xs:List bH) (A:Option Addr) (c:Nat) (F:List Nat) (w:World) (B:Nat) (h:Own w B xs [.slice A xs.length c] F) (hB:B≤w.heap.size) (hl:(xs.length:Int)≤1048576) :
 Calls Tryz.prog 176 #[.slice A xs.length c] w fun e w'=>∃F',e = .returned (.slice A (kept neTolerance xs xs.length).length c)∧Own w' B (kept neTolerance xs xs.length) [.slice A (kept neTolerance xs xs.length).length c] F'∧Below B w w':=by
 by_cases hne:xs = []
 ·subst hne;go_enter Tryz.func176,Tryz.ntmps176;go_wp2;go_ret
  exact ⟨F,rfl,h,.refl _ _⟩
 ·have hcap:=Sl.cap (α:=bH) h.rd;unfold maxLen at hcap;obtain ⟨hcap1,hcap2⟩:=hcap;obtain ⟨g,o,D,rfl,rfl,rfl,R⟩:=h.rowE hne;clear h hne;have hlm:(D.map El.x).length = D.length:=List.length_map ..;have HR:=I' (show kept neTolerance (D.map El.x) D.length = (kept (fun x y:El bH=>neTolerance x.x y.x) D D.length).map El.x from (kept_map El.x neTolerance D D.length).symm);rw [hlm] at hcap1 hl ⊢;clear hlm;have hgl:=R.lt;have hbg:B≤g:=R.base g (List.mem_cons_self ..);have fin:∀(w':World),TabE w w' g o D D→(∀j,j < D.length→keepAt (fun x y:El bH=>neTolerance x.x y.x) D j = true)→∃F',Ending.returned (.slice (some ⟨g,o,none⟩) D.length c) = .returned (.slice (some ⟨g,o,none⟩) (kept neTolerance (D.map El.x) D.length).length c)∧Own w' B (kept neTolerance (D.map El.x) D.length) [.slice (some ⟨g,o,none⟩) (kept neTolerance (D.map El.x) D.length).length c] F'∧Below B w w':=fun w' ht ha=>by
   have e:kept neTolerance (D.map El.x) D.length = D.map El.x:=(by rw [HR.out,kept_all ha,List.take_length]);exact Zac0
  have HF:=I' fin;clear fin;by_cases h2:D.length < 2
  ·go_enter Tryz.func176,Tryz.ntmps176;exact Zaeb
  ·go_enter Tryz.func176,Tryz.ntmps176;go_wp2;go_loopg [3] D.length (fun gh s3 wr=>∃k:Nat,1≤k∧k≤D.length∧D.length - k≤gh∧s3 = .int .i64 k∧TabE w wr g o D D∧Hid (∀j,j < k→keepAt (fun x y:El bH=>neTolerance x.x y.x) D j = true))
   case atStart=>exact ⟨1,Nat.le_refl _,O',O',rfl,.start R,I' (keepAt_one _ _)⟩
   case round =>
    obtain ⟨k,hk1,hk,hg,rfl,hS,HA⟩:=hrel;by_cases hlt:k < D.length
    ·have hgr:g < wr.heap.size:=hS.plain.lt;obtain ⟨p,HP⟩:∃p,D[k]? = some p:=⟨_,List.getElem?_eq_getElem O'⟩;obtain ⟨q,HQ⟩:∃q,D[k - 1]? = some q:=⟨_,List.getElem?_eq_getElem O'⟩;have hmp:p∈D:=List.mem_of_getElem? HP;have hmq:q∈D:=List.mem_of_getElem? HQ;have HCp:=I' (jv (R.rd p hmp)).1;have HCq:=I' (jv (R.rd q hmq)).1;have Hp:=I' (show D[k]? = some p from HP);have Hq:=I' (show D[k - 1]? = some q from HQ);have p0:wr.cell? ⟨g,o+k * 4,none⟩ = some (.string p.x.key):=(by have:=hS.tab (k) p Hp.out 0 (.string p.x.key) (by rw [HCp.out];rfl);rwa [show o+(k) * Dat.size bH+0 = o+k * 4 by show o+(k) * 4+0 = _;omega] at this);have p1:wr.cell? ⟨g,o+k * 4+1,none⟩ = some (.bool p.x.equal):=(by have:=hS.tab (k) p Hp.out 1 (.bool p.x.equal) (by rw [HCp.out];rfl);rwa [show o+(k) * Dat.size bH+1 = o+k * 4+1 by show o+(k) * 4+1 = _;omega] at this);have p2:wr.cell? ⟨g,o+k * 4+2,none⟩ = some (.string p.x.value):=(by have:=hS.tab (k) p Hp.out 2 (.string p.x.value) (by rw [HCp.out];rfl);rwa [show o+(k) * Dat.size bH+2 = o+k * 4+2 by show o+(k) * 4+2 = _;omega] at this);have p3:wr.cell? ⟨g,o+k * 4+3,none⟩ = some (.int .i64 p.x.effect):=(by have:=hS.tab (k) p Hp.out 3 (.int .i64 p.x.effect) (by rw [HCp.out];rfl);rwa [show o+(k) * Dat.size bH+3 = o+k * 4+3 by show o+(k) * 4+3 = _;omega] at this);have q0:wr.cell? ⟨g,o+(k - 1) * 4,none⟩ = some (.string q.x.key):=(by have:=hS.tab (k - 1) q Hq.out 0 (.string q.x.key) (by rw [HCq.out];rfl);rwa [show o+(k - 1) * Dat.size bH+0 = o+(k - 1) * 4 by show o+(k - 1) * 4+0 = _;omega] at this);have q1:wr.cell? ⟨g,o+(k - 1) * 4+1,none⟩ = some (.bool q.x.equal):=(by have:=hS.tab (k - 1) q Hq.out 1 (.bool q.x.equal) (by rw [HCq.out];rfl);rwa [show o+(k - 1) * Dat.size bH+1 = o+(k - 1) * 4+1 by show o+(k - 1) * 4+1 = _;omega] at this);have q2:wr.cell? ⟨g,o+(k - 1) * 4+2,none⟩ = some (.string q.x.value):=(by have:=hS.tab (k - 1) q Hq.out 2 (.string q.x.value) (by rw [HCq.out];rfl);rwa [show o+(k - 1) * Dat.size bH+2 = o+(k - 1) * 4+2 by show o+(k - 1) * 4+2 = _;omega] at this);have q3:wr.cell? ⟨g,o+(k - 1) * 4+3,none⟩ = some (.int .i64 q.x.effect):=(by have:=hS.tab (k - 1) q Hq.out 3 (.int .i64 q.x.effect) (by rw [HCq.out];rfl);rwa [show o+(k - 1) * Dat.size bH+3 = o+(k - 1) * 4+3 by show o+(k - 1) * 4+3 = _;omega] at this);have HPD:=I' HP;have HK:=I' (show keepAt (fun x y:El bH=>neTolerance x.x y.x) D (k) = !(oP p.x q.x) from keepAt_at O' HQ HP);clear HP HQ;have hwk:IntKind.i64.wrap ((k:Int) - 1) = ((k - 1:Nat):Int):=(by rw [IntWalk.i64_in _ O'];omega);have hk0:0≤((k - 1:Nat):Int):=O';have hk9:((k - 1:Nat):Int) < (D.length:Int):=O';cases hv:(oP p.x q.x) with
     | true =>
       have HV:=I' hv;clear hv;go_wp2_with fail
       refine aF wr U' U' (aj _) ?_
       repeat (first
        | (apply aG
           case hw=>rfl
           simp only [Act.put,pz])
        | (apply aH
           case hw=>rfl
           case h =>exact Zacl
           simp only [Act.put,pz]))
       refine aN ?_;intro wn hn;replace hn:=hn.out;simp only [HV.out];go_wp2_with fail
       go_loopg [3,5] D.length (fun gh s3 s5 wz=>∃(kk k2:Nat) (L:List (El bH)),s3 = .int .i64 kk∧s5 = .int .i64 k2∧1≤k2∧k+k2≤D.length∧D.length - (k+k2)≤gh∧TabE w wz g o D L∧Hid (Press (fun x y:El bH=>neTolerance x.x y.x) D (k+k2) kk L))
       case atStart=>exact ⟨k,1,D,rfl,rfl,Nat.le_refl _,O',O',hS.ext hn,I' (Press.start hlt HA.out (by rw [HK.out,HV.out];rfl))⟩
       case round =>
        obtain ⟨kk,k2,L,rfl,rfl,h1,hle,hg2,hS2,HI⟩:=hrel;have hkk:=HI.out.lt;have hds:=HI.out.size;have hgz:g < wr.heap.size:=hS2.plain.lt;clear hmp hmq HCp HCq Hp Hq HPD p0 p1 p2 p3 q0 q1 q2 q3 HK HV hwk hk0 hk9;by_cases hlt2:k+k2 < D.length
        ·obtain ⟨p,HP⟩:∃p,D[k+k2]? = some p:=⟨_,List.getElem?_eq_getElem O'⟩;obtain ⟨q,HQ⟩:∃q,D[k+k2 - 1]? = some q:=⟨_,List.getElem?_eq_getElem O'⟩;have hmp:p∈D:=List.mem_of_getElem? HP;have hmq:q∈D:=List.mem_of_getElem? HQ;have HCp:=I' (jv (R.rd p hmp)).1;have HCq:=I' (jv (R.rd q hmq)).1;have Hp:=I' (show L[k+k2]? = some p from (HI.out.high _ O').trans HP);have Hq:=I' (show L[k+k2 - 1]? = some q from (HI.out.high _ O').trans HQ);have p0:wr.cell? ⟨g,o+k * 4+k2 * 4,none⟩ = some (.string p.x.key):=(by have:=hS2.tab (k+k2) p Hp.out 0 (.string p.x.key) (by rw [HCp.out];rfl);rwa [show o+(k+k2) * Dat.size bH+0 = o+k * 4+k2 * 4 by show o+(k+k2) * 4+0 = _;omega] at this);have p1:wr.cell? ⟨g,o+k * 4+k2 * 4+1,none⟩ = some (.bool p.x.equal):=(by have:=hS2.tab (k+k2) p Hp.out 1 (.bool p.x.equal) (by rw [HCp.out];rfl);rwa [show o+(k+k2) * Dat.size bH+1 = o+k * 4+k2 * 4+1 by show o+(k+k2) * 4+1 = _;omega] at this);have p2:wr.cell? ⟨g,o+k * 4+k2 * 4+2,none⟩ = some (.string p.x.value):=(by have:=hS2.tab (k+k2) p Hp.out 2 (.string p.x.value) (by rw [HCp.out];rfl);rwa [show o+(k+k2) * Dat.size bH+2 = o+k * 4+k2 * 4+2 by show o+(k+k2) * 4+2 = _;omega] at this);have p3:wr.cell? ⟨g,o+k * 4+k2 * 4+3,none⟩ = some (.int .i64 p.x.effect):=(by have:=hS2.tab (k+k2) p Hp.out 3 (.int .i64 p.x.effect) (by rw [HCp.out];rfl);rwa [show o+(k+k2) * Dat.size bH+3 = o+k * 4+k2 * 4+3 by show o+(k+k2) * 4+3 = _;omega] at this);have q0:wr.cell? ⟨g,o+k * 4+(k2 - 1) * 4,none⟩ = some (.string q.x.key):=(by have:=hS2.tab (k+k2 - 1) q Hq.out 0 (.string q.x.key) (by rw [HCq.out];rfl);rwa [show o+(k+k2 - 1) * Dat.size bH+0 = o+k * 4+(k2 - 1) * 4 by show o+(k+k2 - 1) * 4+0 = _;omega] at this);have q1:wr.cell? ⟨g,o+k * 4+(k2 - 1) * 4+1,none⟩ = some (.bool q.x.equal):=(by have:=hS2.tab (k+k2 - 1) q Hq.out 1 (.bool q.x.equal) (by rw [HCq.out];rfl);rwa [show o+(k+k2 - 1) * Dat.size bH+1 = o+k * 4+(k2 - 1) * 4+1 by show o+(k+k2 - 1) * 4+1 = _;omega] at this);have q2:wr.cell? ⟨g,o+k * 4+(k2 - 1) * 4+2,none⟩ = some (.string q.x.value):=(by have:=hS2.tab (k+k2 - 1) q Hq.out 2 (.string q.x.value) (by rw [HCq.out];rfl);rwa [show o+(k+k2 - 1) * Dat.size bH+2 = o+k * 4+(k2 - 1) * 4+2 by show o+(k+k2 - 1) * 4+2 = _;omega] at this);have q3:wr.cell? ⟨g,o+k * 4+(k2 - 1) * 4+3,none⟩ = some (.int .i64 q.x.effect):=(by have:=hS2.tab (k+k2 - 1) q Hq.out 3 (.int .i64 q.x.effect) (by rw [HCq.out];rfl);rwa [show o+(k+k2 - 1) * Dat.size bH+3 = o+k * 4+(k2 - 1) * 4+3 by show o+(k+k2 - 1) * 4+3 = _;omega] at this);have HPD:=I' HP;have HK:=I' (show keepAt (fun x y:El bH=>neTolerance x.x y.x) D (k+k2) = !(oP p.x q.x) from keepAt_at O' HQ HP);clear HP HQ;have hwk:IntKind.i64.wrap ((k2:Int) - 1) = ((k2 - 1:Nat):Int):=(by rw [IntWalk.i64_in _ O'];omega);have hk0:0≤((k2 - 1:Nat):Int):=O';have hk9:((k2 - 1:Nat):Int) < ((D.length - k:Nat):Int):=O';cases hv:(oP p.x q.x) with
         | true =>
           have HV:=I' hv;clear hv;go_wp2_with fail
           refine aF wr U' U' (aj _) ?_
           repeat (first
            | (apply aG
               case hw=>rfl
               simp only [Act.put,pz])
            | (apply aH
               case hw=>rfl
               case h =>exact Zacc
               simp only [Act.put,pz]))
           refine aN ?_;intro wm hn;replace hn:=hn.out;simp only [HV.out,Bool.not_true,Bool.not_false];go_wp2;go_roundg (D.length - (k+(k2+1)))
           case measure=>omega
           case rel=>exact ⟨kk,k2+1,L,rfl,N',O',O',Nat.le_refl _,hS2.ext hn,I' (HI.out.skip (by rw [HK.out,HV.out];rfl))⟩
         | false =>
           have HV:=I' hv;clear hv;go_wp2_with fail
           refine aF wr U' U' (aj _) ?_
           repeat (first
            | (apply aG
               case hw=>rfl
               simp only [Act.put,pz])
            | (apply aH
               case hw=>rfl
               case h =>exact Zacc
               simp only [Act.put,pz]))
           refine aN ?_;intro wm hn;replace hn:=hn.out;simp only [HV.out,Bool.not_true,Bool.not_false];have hS3:=hS2.ext hn;have hgm:g < wm.heap.size:=hS3.plain.lt;replace p0:=(hn.cell (p:=⟨g,o+k * 4+k2 * 4,none⟩) hgz).trans p0;replace p1:=(hn.cell (p:=⟨g,o+k * 4+k2 * 4+1,none⟩) hgz).trans p1;replace p2:=(hn.cell (p:=⟨g,o+k * 4+k2 * 4+2,none⟩) hgz).trans p2;replace p3:=(hn.cell (p:=⟨g,o+k * 4+k2 * 4+3,none⟩) hgz).trans p3;have HPUT:=I' (hS3.put R (i:=kk) (by rw [hds];omega) hmp);obtain ⟨r,HRK⟩:∃r,L[kk]? = some r:=⟨_,List.getElem?_eq_getElem (by rw [hds];omega)⟩;have hmr:r∈D:=hS3.sub r (List.mem_of_getElem? HRK);have HCr:=I' (jv (R.rd r hmr)).1;have Hr:=I' HRK;clear HRK;have r0:wm.cell? ⟨g,o+kk * 4,none⟩ = some (.string r.x.key):=(by have:=hS3.tab (kk) r Hr.out 0 (.string r.x.key) (by rw [HCr.out];rfl);rwa [show o+(kk) * Dat.size bH+0 = o+kk * 4 by show o+(kk) * 4+0 = _;omega] at this);have r1:wm.cell? ⟨g,o+kk * 4+1,none⟩ = some (.bool r.x.equal):=(by have:=hS3.tab (kk) r Hr.out 1 (.bool r.x.equal) (by rw [HCr.out];rfl);rwa [show o+(kk) * Dat.size bH+1 = o+kk * 4+1 by show o+(kk) * 4+1 = _;omega] at this);have r2:wm.cell? ⟨g,o+kk * 4+2,none⟩ = some (.string r.x.value):=(by have:=hS3.tab (kk) r Hr.out 2 (.string r.x.value) (by rw [HCr.out];rfl);rwa [show o+(kk) * Dat.size bH+2 = o+kk * 4+2 by show o+(kk) * 4+2 = _;omega] at this);have r3:wm.cell? ⟨g,o+kk * 4+3,none⟩ = some (.int .i64 r.x.effect):=(by have:=hS3.tab (kk) r Hr.out 3 (.int .i64 r.x.effect) (by rw [HCr.out];rfl);rwa [show o+(kk) * Dat.size bH+3 = o+kk * 4+3 by show o+(kk) * 4+3 = _;omega] at this);have rf0:wm.frozen? ⟨g,o+kk * 4,none⟩ = false:=hS3.plain.frozen _;have rf1:wm.frozen? ⟨g,o+kk * 4+1,none⟩ = false:=hS3.plain.frozen _;have rf2:wm.frozen? ⟨g,o+kk * 4+2,none⟩ = false:=hS3.plain.frozen _;have rf3:wm.frozen? ⟨g,o+kk * 4+3,none⟩ = false:=hS3.plain.frozen _;go_wp2;go_roundg (D.length - (k+(k2+1)))
           case measure=>omega
           case rel=>exact ⟨kk+1,k2+1,L.set kk p,N',N',O',O',Nat.le_refl _,by have:=HPUT.out;rw [HCp.out] at this;exact this,I' (HI.out.keep HPD.out (by rw [HK.out,HV.out];rfl))⟩
        ·have hend:k+k2 = D.length:=O';have HZ:=I' hS2
         have hcl:∀ty,(Builtin.clear_ #[50] ty #[.slice (some ⟨g,o+kk * 4,none⟩) (D.length - kk) (c - kk)]).run Tryz.prog wr = .ok (.tuple #[]) (wr.setCells g (o+kk * 4) (Builtin.zeroCells (.agg #[.string ⟨#[]⟩,.bool false,.string ⟨#[]⟩,.int .i64 0]:Value).cells (D.length - kk)).toList) :=
          fun ty=>run_clearK wr _ _ ty _ Tryz.underlying50 Tryz.zeroValue160 (show ∀u∈([.string ⟨#[]⟩,.bool false,.string ⟨#[]⟩,.int .i64 0]:List Value),u.oneCell' = true by intro u hu;simp only [List.mem_cons,List.not_mem_nil,or_false] at hu;rcases hu with rfl | rfl | rfl | rfl <;> rfl) g _ _ _ O' (fun j hj=>by
           rw [Nat.add_assoc];refine HZ.out.isSome R ?_;have hj2:j < (D.length - kk) * 4:=hj;show kk * 4+j < L.length * 4
           rw [hds];omega) (fun j _=>HZ.out.plain.frozen _)
         generalize hzs:(Builtin.zeroCells (.agg #[.string ⟨#[]⟩,.bool false,.string ⟨#[]⟩,.int .i64 0]:Value).cells (D.length - kk)).toList = zs at hcl;have hI:=HI.out;rw [hend] at hI;have HFI:=I' hI;clear hzs hI hS2;go_wp2;go_ret
         refine ⟨g :: (kept (fun x y:El bH=>neTolerance x.x y.x) D D.length).flatMap El.F,?_,?_,(HZ.out.set_upd _ _).below (fun b hb=>by rw [List.mem_singleton.1 hb];exact hbg) hB⟩
         ·rw [HR.out,List.length_map,← HFI.out.at_];rfl
         ·rw [HR.out];exact HZ.out.pressed R HFI.out zs hcap1 hcap2
     | false =>
       have HV:=I' hv;clear hv;go_wp2_with fail
       refine aF wr U' U' (aj _) ?_
       repeat (first
        | (apply aG
           case hw=>rfl
           simp only [Act.put,pz])
        | (apply aH
           case hw=>rfl
           case h =>exact Zacl
           simp only [Act.put,pz]))
       refine aN ?_;intro wn hn;replace hn:=hn.out;simp only [HV.out];go_wp2;go_roundg (D.length - (k+1))
       case measure=>omega
       case rel =>exact Zacy
    ·exact Zac6
end Go.Proofs.YtkbkikggodlbbaaGreat
