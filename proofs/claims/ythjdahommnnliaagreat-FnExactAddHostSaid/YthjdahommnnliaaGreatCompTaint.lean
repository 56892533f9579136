/- slices.Compact at []Taint. No condition. -/
import Derived.Test.YthjdahommnnliaaGreatCompK
import Derived.Test.YthjdahommnnliaaGreatEq
import Derived.Test.YthjdahommnnliaaGreatGr
import Derived.Deep.LoopGhost
import Derived.Laws.Cover1
namespace Go.Proofs.YthjdahommnnliaaGreat
open Go.ChangeShapes Go.WideShapes Go.ChangeAt Go.RowKit
set_option linter.unusedVariables false
set_option linter.unusedSimpArgs false
def neTaint (x y:iU):Bool:=!(Aq y x)
theorem neTaint_iff (x y:iU):neTaint x y = true↔x≠y:=by
 unfold neTaint
 cases h:Aq y x with
 | true=>have:=(Xx y x).1 h;simp [this]
 | false=>simp only [Bool.not_false,true_iff];rintro rfl;rw [(Xx x x).2 rfl] at h;cases h
set_option maxRecDepth 100000 in
set_option maxHeartbeats 4000000 in
theorem compTaint (xs:List iU) (A:Option Addr) (c:Nat) (F:List Nat) (w:World) (B:Nat) (h:Own w B xs [.slice A xs.length c] F) (hB:B≤w.heap.size) (hl:(xs.length:Int)≤1048576) :
 Calls Tryz.prog 174 #[.slice A xs.length c] w fun e w'=>∃F',e = .returned (.slice A (kept neTaint xs xs.length).length c)∧Own w' B (kept neTaint xs xs.length) [.slice A (kept neTaint xs xs.length).length c] F'∧Below B w w':=by
 by_cases hne:xs = []
 ·subst hne
  go_enter Tryz.func174,Tryz.ntmps174
  go_wp2
  go_ret
  exact ⟨F,rfl,h,.refl _ _⟩
 ·have hcap:=Sl.cap (α:=iU) h.rd
  unfold maxLen at hcap
  obtain ⟨hcap1,hcap2⟩:=hcap
  obtain ⟨g,o,D,rfl,rfl,rfl,R⟩:=h.rowE hne
  clear h hne
  have hlm:(D.map El.x).length = D.length:=List.length_map ..
  have HR:=Lib.hid (show kept neTaint (D.map El.x) D.length = (kept (fun x y:El iU=>neTaint x.x y.x) D D.length).map El.x from (kept_map El.x neTaint D D.length).symm)
  rw [hlm] at hcap1 hl ⊢
  clear hlm
  have hgl:=R.lt
  have hbg:B≤g:=R.base g (List.mem_cons_self ..)
  have fin:∀(w':World),TabE w w' g o D D→(∀j,j < D.length→keepAt (fun x y:El iU=>neTaint x.x y.x) D j = true)→∃F',Ending.returned (.slice (some ⟨g,o,none⟩) D.length c) = .returned (.slice (some ⟨g,o,none⟩) (kept neTaint (D.map El.x) D.length).length c)∧Own w' B (kept neTaint (D.map El.x) D.length) [.slice (some ⟨g,o,none⟩) (kept neTaint (D.map El.x) D.length).length c] F'∧Below B w w':=fun w' ht ha=>by
   have e:kept neTaint (D.map El.x) D.length = D.map El.x:=by rw [HR.out,kept_all ha,List.take_length]
   rw [e]
   exact ⟨g :: D.flatMap El.F,by rw [List.length_map],ht.own R rfl hcap1 hcap2,ht.upd.below (fun b hb=>by rw [List.mem_singleton.1 hb];exact hbg) hB⟩
  have HF:=Lib.hid fin
  clear fin
  by_cases h2:D.length < 2
  ·go_enter Tryz.func174,Tryz.ntmps174
   go_wp2
   go_ret
   exact HF.out w (.start R) (fun j hj=>keepAt_one _ _ j (by omega))
  ·go_enter Tryz.func174,Tryz.ntmps174
   go_wp2
   go_loopg [3] D.length (fun gh s3 wr=>∃k:Nat,1≤k∧k≤D.length∧D.length - k≤gh∧s3 = .int .i64 k∧TabE w wr g o D D∧Hid (∀j,j < k→keepAt (fun x y:El iU=>neTaint x.x y.x) D j = true))
   case atStart=>exact ⟨1,Nat.le_refl _,by omega,by omega,rfl,.start R,Lib.hid (keepAt_one _ _)⟩
   case round =>
    obtain ⟨k,hk1,hk,hg,rfl,hS,HA⟩:=hrel
    by_cases hlt:k < D.length
    ·have hgr:g < wr.heap.size:=hS.plain.lt
     obtain ⟨p,HP⟩:∃p,D[k]? = some p:=⟨_,List.getElem?_eq_getElem (by omega)⟩
     obtain ⟨q,HQ⟩:∃q,D[k - 1]? = some q:=⟨_,List.getElem?_eq_getElem (by omega)⟩
     have hmp:p∈D:=List.mem_of_getElem? HP
     have hmq:q∈D:=List.mem_of_getElem? HQ
     have HCp:=Lib.hid (oK (R.rd p hmp)).1
     have HCq:=Lib.hid (oK (R.rd q hmq)).1
     have Hp:=Lib.hid (show D[k]? = some p from HP)
     have Hq:=Lib.hid (show D[k - 1]? = some q from HQ)
     have p0:wr.cell? ⟨g,o+k * 3,none⟩ = some (.string p.x.key):=by have:=hS.tab (k) p Hp.out 0 (.string p.x.key) (by rw [HCp.out];rfl);rwa [show o+(k) * Dat.size iU+0 = o+k * 3 by show o+(k) * 3+0 = _;omega] at this
     have p1:wr.cell? ⟨g,o+k * 3+1,none⟩ = some (.string p.x.value):=by have:=hS.tab (k) p Hp.out 1 (.string p.x.value) (by rw [HCp.out];rfl);rwa [show o+(k) * Dat.size iU+1 = o+k * 3+1 by show o+(k) * 3+1 = _;omega] at this
     have p2:wr.cell? ⟨g,o+k * 3+2,none⟩ = some (.int .i64 p.x.effect):=by have:=hS.tab (k) p Hp.out 2 (.int .i64 p.x.effect) (by rw [HCp.out];rfl);rwa [show o+(k) * Dat.size iU+2 = o+k * 3+2 by show o+(k) * 3+2 = _;omega] at this
     have q0:wr.cell? ⟨g,o+(k - 1) * 3,none⟩ = some (.string q.x.key):=by have:=hS.tab (k - 1) q Hq.out 0 (.string q.x.key) (by rw [HCq.out];rfl);rwa [show o+(k - 1) * Dat.size iU+0 = o+(k - 1) * 3 by show o+(k - 1) * 3+0 = _;omega] at this
     have q1:wr.cell? ⟨g,o+(k - 1) * 3+1,none⟩ = some (.string q.x.value):=by have:=hS.tab (k - 1) q Hq.out 1 (.string q.x.value) (by rw [HCq.out];rfl);rwa [show o+(k - 1) * Dat.size iU+1 = o+(k - 1) * 3+1 by show o+(k - 1) * 3+1 = _;omega] at this
     have q2:wr.cell? ⟨g,o+(k - 1) * 3+2,none⟩ = some (.int .i64 q.x.effect):=by have:=hS.tab (k - 1) q Hq.out 2 (.int .i64 q.x.effect) (by rw [HCq.out];rfl);rwa [show o+(k - 1) * Dat.size iU+2 = o+(k - 1) * 3+2 by show o+(k - 1) * 3+2 = _;omega] at this
     have HPD:=Lib.hid HP
     have HK:=Lib.hid (show keepAt (fun x y:El iU=>neTaint x.x y.x) D (k) = !(Aq p.x q.x) from keepAt_at (by omega) HQ HP)
     clear HP HQ
     have hwk:IntKind.i64.wrap ((k:Int) - 1) = ((k - 1:Nat):Int):=by rw [IntWalk.i64_in _ (by omega)];omega
     have hk0:0≤((k - 1:Nat):Int):=by omega
     have hk9:((k - 1:Nat):Int) < (D.length:Int):=by omega
     cases hv:(Aq p.x q.x) with
     | true =>
       have HV:=Lib.hid hv
       clear hv
       go_wp2_with fail
       refine aF wr (by kernel_rfl) (by kernel_rfl) (aj _) ?_
       repeat (first
        | (apply aG
           case hw=>rfl
           simp only [Act.put,pz])
        | (apply aH
           case hw=>rfl
           case h =>
            exact Zabw
           simp only [Act.put,pz]))
       refine aN ?_
       intro wn hn
       replace hn:=hn.out
       simp only [HV.out]
       go_wp2_with fail
       go_loopg [3,5] D.length (fun gh s3 s5 wz=>∃(kk k2:Nat) (L:List (El iU)),s3 = .int .i64 kk∧s5 = .int .i64 k2∧1≤k2∧k+k2≤D.length∧D.length - (k+k2)≤gh∧TabE w wz g o D L∧Hid (Press (fun x y:El iU=>neTaint x.x y.x) D (k+k2) kk L))
       case atStart=>exact ⟨k,1,D,rfl,rfl,Nat.le_refl _,by omega,by omega,hS.ext hn,Lib.hid (Press.start hlt HA.out (by rw [HK.out,HV.out];rfl))⟩
       case round =>
        obtain ⟨kk,k2,L,rfl,rfl,h1,hle,hg2,hS2,HI⟩:=hrel
        have hkk:=HI.out.lt
        have hds:=HI.out.size
        have hgz:g < wr.heap.size:=hS2.plain.lt
        clear hmp hmq HCp HCq Hp Hq HPD p0 p1 p2 q0 q1 q2 HK HV hwk hk0 hk9
        by_cases hlt2:k+k2 < D.length
        ·obtain ⟨p,HP⟩:∃p,D[k+k2]? = some p:=⟨_,List.getElem?_eq_getElem (by omega)⟩
         obtain ⟨q,HQ⟩:∃q,D[k+k2 - 1]? = some q:=⟨_,List.getElem?_eq_getElem (by omega)⟩
         have hmp:p∈D:=List.mem_of_getElem? HP
         have hmq:q∈D:=List.mem_of_getElem? HQ
         have HCp:=Lib.hid (oK (R.rd p hmp)).1
         have HCq:=Lib.hid (oK (R.rd q hmq)).1
         have Hp:=Lib.hid (show L[k+k2]? = some p from (HI.out.high _ (by omega)).trans HP)
         have Hq:=Lib.hid (show L[k+k2 - 1]? = some q from (HI.out.high _ (by omega)).trans HQ)
         have p0:wr.cell? ⟨g,o+k * 3+k2 * 3,none⟩ = some (.string p.x.key):=by have:=hS2.tab (k+k2) p Hp.out 0 (.string p.x.key) (by rw [HCp.out];rfl);rwa [show o+(k+k2) * Dat.size iU+0 = o+k * 3+k2 * 3 by show o+(k+k2) * 3+0 = _;omega] at this
         have p1:wr.cell? ⟨g,o+k * 3+k2 * 3+1,none⟩ = some (.string p.x.value):=by have:=hS2.tab (k+k2) p Hp.out 1 (.string p.x.value) (by rw [HCp.out];rfl);rwa [show o+(k+k2) * Dat.size iU+1 = o+k * 3+k2 * 3+1 by show o+(k+k2) * 3+1 = _;omega] at this
         have p2:wr.cell? ⟨g,o+k * 3+k2 * 3+2,none⟩ = some (.int .i64 p.x.effect):=by have:=hS2.tab (k+k2) p Hp.out 2 (.int .i64 p.x.effect) (by rw [HCp.out];rfl);rwa [show o+(k+k2) * Dat.size iU+2 = o+k * 3+k2 * 3+2 by show o+(k+k2) * 3+2 = _;omega] at this
         have q0:wr.cell? ⟨g,o+k * 3+(k2 - 1) * 3,none⟩ = some (.string q.x.key):=by have:=hS2.tab (k+k2 - 1) q Hq.out 0 (.string q.x.key) (by rw [HCq.out];rfl);rwa [show o+(k+k2 - 1) * Dat.size iU+0 = o+k * 3+(k2 - 1) * 3 by show o+(k+k2 - 1) * 3+0 = _;omega] at this
         have q1:wr.cell? ⟨g,o+k * 3+(k2 - 1) * 3+1,none⟩ = some (.string q.x.value):=by have:=hS2.tab (k+k2 - 1) q Hq.out 1 (.string q.x.value) (by rw [HCq.out];rfl);rwa [show o+(k+k2 - 1) * Dat.size iU+1 = o+k * 3+(k2 - 1) * 3+1 by show o+(k+k2 - 1) * 3+1 = _;omega] at this
         have q2:wr.cell? ⟨g,o+k * 3+(k2 - 1) * 3+2,none⟩ = some (.int .i64 q.x.effect):=by have:=hS2.tab (k+k2 - 1) q Hq.out 2 (.int .i64 q.x.effect) (by rw [HCq.out];rfl);rwa [show o+(k+k2 - 1) * Dat.size iU+2 = o+k * 3+(k2 - 1) * 3+2 by show o+(k+k2 - 1) * 3+2 = _;omega] at this
         have HPD:=Lib.hid HP
         have HK:=Lib.hid (show keepAt (fun x y:El iU=>neTaint x.x y.x) D (k+k2) = !(Aq p.x q.x) from keepAt_at (by omega) HQ HP)
         clear HP HQ
         have hwk:IntKind.i64.wrap ((k2:Int) - 1) = ((k2 - 1:Nat):Int):=by rw [IntWalk.i64_in _ (by omega)];omega
         have hk0:0≤((k2 - 1:Nat):Int):=by omega
         have hk9:((k2 - 1:Nat):Int) < ((D.length - k:Nat):Int):=by omega
         cases hv:(Aq p.x q.x) with
         | true =>
           have HV:=Lib.hid hv
           clear hv
           go_wp2_with fail
           refine aF wr (by kernel_rfl) (by kernel_rfl) (aj _) ?_
           repeat (first
            | (apply aG
               case hw=>rfl
               simp only [Act.put,pz])
            | (apply aH
               case hw=>rfl
               case h =>
                exact Zabr
               simp only [Act.put,pz]))
           refine aN ?_
           intro wm hn
           replace hn:=hn.out
           simp only [HV.out,Bool.not_true,Bool.not_false]
           go_wp2
           go_roundg (D.length - (k+(k2+1)))
           case measure=>omega
           case rel=>exact ⟨kk,k2+1,L,rfl,by go_num,by omega,by omega,Nat.le_refl _,hS2.ext hn,Lib.hid (HI.out.skip (by rw [HK.out,HV.out];rfl))⟩
         | false =>
           have HV:=Lib.hid hv
           clear hv
           go_wp2_with fail
           refine aF wr (by kernel_rfl) (by kernel_rfl) (aj _) ?_
           repeat (first
            | (apply aG
               case hw=>rfl
               simp only [Act.put,pz])
            | (apply aH
               case hw=>rfl
               case h =>
                exact Zabr
               simp only [Act.put,pz]))
           refine aN ?_
           intro wm hn
           replace hn:=hn.out
           simp only [HV.out,Bool.not_true,Bool.not_false]
           have hS3:=hS2.ext hn
           have hgm:g < wm.heap.size:=hS3.plain.lt
           replace p0:=(hn.cell (p:=⟨g,o+k * 3+k2 * 3,none⟩) hgz).trans p0
           replace p1:=(hn.cell (p:=⟨g,o+k * 3+k2 * 3+1,none⟩) hgz).trans p1
           replace p2:=(hn.cell (p:=⟨g,o+k * 3+k2 * 3+2,none⟩) hgz).trans p2
           have HPUT:=Lib.hid (hS3.put R (i:=kk) (by rw [hds];omega) hmp)
           obtain ⟨r,HRK⟩:∃r,L[kk]? = some r:=⟨_,List.getElem?_eq_getElem (by rw [hds];omega)⟩
           have hmr:r∈D:=hS3.sub r (List.mem_of_getElem? HRK)
           have HCr:=Lib.hid (oK (R.rd r hmr)).1
           have Hr:=Lib.hid HRK
           clear HRK
           have r0:wm.cell? ⟨g,o+kk * 3,none⟩ = some (.string r.x.key):=by have:=hS3.tab (kk) r Hr.out 0 (.string r.x.key) (by rw [HCr.out];rfl);rwa [show o+(kk) * Dat.size iU+0 = o+kk * 3 by show o+(kk) * 3+0 = _;omega] at this
           have r1:wm.cell? ⟨g,o+kk * 3+1,none⟩ = some (.string r.x.value):=by have:=hS3.tab (kk) r Hr.out 1 (.string r.x.value) (by rw [HCr.out];rfl);rwa [show o+(kk) * Dat.size iU+1 = o+kk * 3+1 by show o+(kk) * 3+1 = _;omega] at this
           have r2:wm.cell? ⟨g,o+kk * 3+2,none⟩ = some (.int .i64 r.x.effect):=by have:=hS3.tab (kk) r Hr.out 2 (.int .i64 r.x.effect) (by rw [HCr.out];rfl);rwa [show o+(kk) * Dat.size iU+2 = o+kk * 3+2 by show o+(kk) * 3+2 = _;omega] at this
           have rf0:wm.frozen? ⟨g,o+kk * 3,none⟩ = false:=hS3.plain.frozen _
           have rf1:wm.frozen? ⟨g,o+kk * 3+1,none⟩ = false:=hS3.plain.frozen _
           have rf2:wm.frozen? ⟨g,o+kk * 3+2,none⟩ = false:=hS3.plain.frozen _
           go_wp2
           go_roundg (D.length - (k+(k2+1)))
           case measure=>omega
           case rel=>exact ⟨kk+1,k2+1,L.set kk p,by go_num,by go_num,by omega,by omega,Nat.le_refl _,by have:=HPUT.out;rw [HCp.out] at this;exact this,Lib.hid (HI.out.keep HPD.out (by rw [HK.out,HV.out];rfl))⟩
        ·have hend:k+k2 = D.length:=by omega
         have HZ:=Lib.hid hS2
         have hcl:∀ty,(Builtin.clear_ #[38] ty #[.slice (some ⟨g,o+kk * 3,none⟩) (D.length - kk) (c - kk)]).run Tryz.prog wr = .ok (.tuple #[]) (wr.setCells g (o+kk * 3) (Builtin.zeroCells (.agg #[.string ⟨#[]⟩,.string ⟨#[]⟩,.int .i64 0]:Value).cells (D.length - kk)).toList) :=
          fun ty=>run_clearK wr _ _ ty _ Tryz.underlying38 Tryz.zeroValue130 (show ∀u∈([.string ⟨#[]⟩,.string ⟨#[]⟩,.int .i64 0]:List Value),u.oneCell' = true by intro u hu;simp only [List.mem_cons,List.not_mem_nil,or_false] at hu;rcases hu with rfl | rfl | rfl <;> rfl) g _ _ _ (by omega) (fun j hj=>by
           rw [Nat.add_assoc]
           refine HZ.out.isSome R ?_
           have hj2:j < (D.length - kk) * 3:=hj
           show kk * 3+j < L.length * 3
           rw [hds];omega) (fun j _=>HZ.out.plain.frozen _)
         generalize hzs:(Builtin.zeroCells (.agg #[.string ⟨#[]⟩,.string ⟨#[]⟩,.int .i64 0]:Value).cells (D.length - kk)).toList = zs at hcl
         have hI:=HI.out
         rw [hend] at hI
         have HFI:=Lib.hid hI
         clear hzs hI hS2
         go_wp2
         go_ret
         refine ⟨g :: (kept (fun x y:El iU=>neTaint x.x y.x) D D.length).flatMap El.F,?_,?_,(HZ.out.set_upd _ _).below (fun b hb=>by rw [List.mem_singleton.1 hb];exact hbg) hB⟩
         ·rw [HR.out,List.length_map,← HFI.out.at_]
          rfl
         ·rw [HR.out];exact HZ.out.pressed R HFI.out zs hcap1 hcap2
     | false =>
       have HV:=Lib.hid hv
       clear hv
       go_wp2_with fail
       refine aF wr (by kernel_rfl) (by kernel_rfl) (aj _) ?_
       repeat (first
        | (apply aG
           case hw=>rfl
           simp only [Act.put,pz])
        | (apply aH
           case hw=>rfl
           case h =>
            exact Zabw
           simp only [Act.put,pz]))
       refine aN ?_
       intro wn hn
       replace hn:=hn.out
       simp only [HV.out]
       go_wp2
       go_roundg (D.length - (k+1))
       case measure=>omega
       case rel =>
        refine ⟨k+1,by omega,by omega,Nat.le_refl _,by go_num,hS.ext hn,Lib.hid (fun j hj=>?_)⟩
        by_cases e:j = k
        ·subst e;rw [HK.out,HV.out];rfl
        ·exact HA.out j (by omega)
    ·have:k = D.length:=by omega
     subst this
     have HS:=Lib.hid hS
     clear hS
     go_wp2
     go_ret
     exact HF.out wr HS.out HA.out
end Go.Proofs.YthjdahommnnliaaGreat
