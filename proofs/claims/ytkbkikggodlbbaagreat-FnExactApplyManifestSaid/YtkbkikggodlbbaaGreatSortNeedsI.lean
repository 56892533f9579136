/- SortNeeds of the program. No condition. -/
import Derived.Test.YtkbkikggodlbbaaGreatSortLabelsP
import Derived.Test.YtkbkikggodlbbaaGreatLaySFNeed
import Derived.Test.YtkbkikggodlbbaaGreatCompNeed
import Derived.Test.YtkbkikggodlbbaaGreatClone
import Derived.Test.YtkbkikggodlbbaaGreatValsI
import Derived.Test.YtkbkikggodlbbaaGreatWords
namespace Go.Proofs.YtkbkikggodlbbaaGreat
open Go.ChangeShapes Go.WideShapes Go.ChangeAt Go.RowKit
set_option linter.unusedVariables false
set_option linter.unusedSimpArgs false
set_option maxHeartbeats 4000000
set_option maxRecDepth 100000
def normUp (xs:List Need) (k:Nat):List Need:=(xs.take k).map normN++xs.drop k
theorem normUp_zero (xs:List Need):normUp xs 0 = xs:=by simp [normUp]
theorem normUp_all (xs:List Need):normUp xs xs.length = xs.map normN:=by simp [normUp]
theorem normUp_len (xs:List Need) {k:Nat} (hk:k≤xs.length):(normUp xs k).length = xs.length:=by simp [normUp];omega
theorem normUp_get {xs:List Need} {k:Nat} (hk:k < xs.length) {h:k < (normUp xs k).length} : (normUp xs k)[k] = xs[k]:=by
 have:(normUp xs k)[k]? = xs[k]?:=by unfold normUp;rw [List.getElem?_append_right (by rw [List.length_map,List.length_take];omega),List.length_map,List.length_take,Nat.min_eq_left (Nat.le_of_lt hk),Nat.sub_self,List.getElem?_drop,Nat.add_zero]
 rw [List.getElem?_eq_getElem h,List.getElem?_eq_getElem hk] at this;exact Option.some.inj this
theorem normUp_set {xs:List Need} {k:Nat} (hk:k < xs.length):(normUp xs k).set k (normN xs[k]) = normUp xs (k+1):=by
 unfold normUp;rw [List.set_append_right _ _ (by rw [List.length_map,List.length_take];omega)];rw [List.length_map,List.length_take,Nat.min_eq_left (Nat.le_of_lt hk),Nat.sub_self,List.take_succ_eq_append_getElem hk,List.map_append,List.append_assoc];congr 1;rw [List.drop_eq_getElem_cons hk];rfl
theorem any_idxN {α:Type} (p:α→Bool):∀xs:List α,xs.any p = decide (0≤pK p xs)
 | []=>rfl
 | x :: xs=>by
   have h:=any_idxN p xs;simp only [List.any_cons,pK,h];by_cases hp:p x = true
   ·simp [hp]
   ·simp only [Bool.not_eq_true] at hp;simp only [hp,Bool.false_or,if_neg (show ¬false = true by simp)];rw [Bool.eq_iff_iff,decide_eq_true_eq,decide_eq_true_eq];split <;> omega
def wideP (x:Need):Bool:=decide (40 < x.values.length)
theorem wide_small (xs:List Need):xs.any wideP = !smallV xs:=by
 unfold smallV;induction xs with
 | nil=>rfl
 | cons x xs ih=>rw [List.any_cons,ih,List.all_cons,Bool.not_and];congr 1;unfold wideP;by_cases h:x.values.length≤40 <;> simp [h] <;> omega
theorem wide_any (x:Need) (cs:List Value) (F:List Nat) (w:World) (h:rd w x cs F) (hl:(x.values.length:Int)≤1048576) :
 Calls Tryz.prog 168 #[.agg cs.toArray] w fun e w'=>e = .returned (.bool (wideP x))∧Below w.heap.size w w':=by
 obtain ⟨jy,ji,Bo,hck,hF,hkey,hop,kV⟩:=og h;subst hck;have hd:decide ((40:Int) < (x.values.length:Int)) = wideP x:=by unfold wideP;congr 1;apply propext;omega
 go_enter Tryz.func168,Tryz.ntmps168;go_wp2;go_ret
 exact ⟨by rw [← hd];try rfl,atS⟩
theorem wide_index (xs:List Need) (A:Option Addr) (c:Nat) (F:List Nat) (w:World) (h:Sl w xs A c F) (hl:(xs.length:Int)≤1048576) (hv:∀x∈xs,(x.values.length:Int)≤1048576) :
 Calls Tryz.prog 191 #[.slice A xs.length c,.func (.func 168) #[] #[]] w fun e w'=>e = .returned (.int .i64 (pK wideP xs))∧Below w.heap.size w w':=by
 have HV:=I' hv;clear hv;go_enter Tryz.func191,Tryz.ntmps191;go_wp2;go_loopw [5,8] (fun _ i wr=>∃k:Nat,k≤xs.length∧i = .int .i64 k∧Hid (∀t∈xs.take k,wideP t = false)∧Below w.heap.size w wr) (fun _ i _=>xs.length - (intOf i).toNat)
 case atStart=>exact ⟨0,Nat.zero_le _,rfl,by show ∀_,_;simp,aj _⟩
 case round =>
  obtain ⟨k,hk,rfl,Hn,hbl⟩:=hrel;by_cases hlt:k < xs.length
  ·obtain ⟨b,o,ck,Fk,rfl,o9,hbs,hr,hsub,hc⟩:=(h.ext hbl).get hlt;have hr0:=hr;obtain ⟨DT,DU,alQ,hck,hF3,adC,hop3,abp⟩:=og hr;subst hck;have q0:wr.cell? ⟨b,o+k * 3,none⟩ = some (.string xs[k].key):=(by exact hc 0 _ rfl);have q1:wr.cell? ⟨b,o+k * 3+1,none⟩ = some (.int .i64 xs[k].op):=(by rw [Nat.add_assoc];exact hc 1 _ rfl);have q2:wr.cell? ⟨b,o+k * 3+2,none⟩ = some (.slice DT xs[k].values.length DU):=(by rw [Nat.add_assoc];exact hc 2 _ rfl);clear hc;have hs1:=HV.out xs[k] (List.getElem_mem ..);have HK:=I' (wide_any xs[k] _ _ wr hr0 hs1);cases hp:wideP xs[k] with
   | false =>
     have HP:=I' hp;clear hp;go_wp2_with (go_at_call 168;refine HK.out.mono ?_;rw [HP.out];rintro e w2 ⟨rfl,hb2⟩)
     exact ⟨⟨k+1,O',N',yQ (p:=wideP) hlt Hn.out HP.out,ah hbl hb2⟩,by simp [intOf];omega⟩
   | true =>
     have HP:=I' hp;clear hp;have HI:=I' (Fj (p:=wideP) hlt Hn.out HP.out);go_wp2_with (go_at_call 168;refine HK.out.mono ?_;rw [HP.out];rintro e w2 ⟨rfl,hb2⟩)
     go_ret
     exact ⟨by rw [HI.out];rfl,ah hbl hb2⟩
  ·have hkl:k = xs.length:=O';subst hkl;have hn:=Hn.out;rw [List.take_length] at hn;have HI:=I' (F5 (p:=wideP) hn);clear hn;go_wp2;go_ret
   exact ⟨by rw [HI.out];rfl,hbl⟩
theorem wide_contains (xs:List Need) (A:Option Addr) (c:Nat) (F:List Nat) (w:World) (h:Sl w xs A c F) (hl:(xs.length:Int)≤1048576) (hv:∀x∈xs,(x.values.length:Int)≤1048576) :
 Calls Tryz.prog 167 #[.slice A xs.length c,.func (.func 168) #[] #[]] w fun e w'=>e = .returned (.bool (!smallV xs))∧Below w.heap.size w w':=by
 have hab:=any_idxN wideP xs;have hix:=wide_index xs A c F w h hl hv;rw [wide_small] at hab;generalize pK wideP xs = z at hab hix;rw [hab];clear hab hv;go_enter Tryz.func167,Tryz.ntmps167;go_wp2_with fail
 refine hix.mono ?_;rintro e w2 ⟨rfl,hb2⟩;go_wp2;go_ret
 exact ⟨rfl,hb2⟩
theorem SortNeeds_impl (xs:List Need) (A:Option Addr) (c:Nat) (F:List Nat) (w:World) (h:Sl w xs A c F) (hl:(xs.length:Int)≤1048576) (hsm:∀l∈xs,(l.wt:Int)≤1048576) :
 Calls Tryz.prog 123 #[.slice A xs.length c] w fun e w'=>∃A' c' G,e = .returned (.tuple #[.slice A' (sortNeedsR xs).1.length c',.bool (sortNeedsR xs).2])∧Own w' w.heap.size (sortNeedsR xs).1 [.slice A' (sortNeedsR xs).1.length c'] G∧Below w.heap.size w w':=by
 have hv:∀x∈xs,(x.values.length:Int)≤1048576:=fun x hx=>by
  exact Zaeg
 have Eo:=I' hsm;have HV:=I' hv;clear hsm hv;by_cases h40:xs.length≤40
 ·have HW:=I' (wide_contains xs A c F w h hl HV.out);cases hs:smallV xs with
  | false =>
    have HR:=I' (sortNeedsR_wide hs);have HS:=I' hs;clear hs;go_enter Tryz.func123,Tryz.ntmps123;go_wp2_with fail
    refine HW.out.mono ?_;rw [HS.out];rintro e w1 ⟨rfl,hb1⟩;go_wp2_with fail
    refine (ahY xs A c F w1 (h.ext hb1) hl HV.out).mono ?_;rintro e w2 ⟨A2,c2,F2,rfl,hO2,hb2⟩;go_wp2;go_ret2
    exact ⟨A2,c2,F2,by rw [HR.out];try rfl,by rw [HR.out];exact hO2.mono hb1.size,ah hb1 hb2⟩
  | true =>
    have HS:=I' hs;clear hs;go_enter Tryz.func123,Tryz.ntmps123;go_wp2_with fail
    refine HW.out.mono ?_;rw [HS.out];rintro e w1 ⟨rfl,hb1⟩;go_wp2_with fail
    refine (ahY xs A c F w1 (h.ext hb1) hl HV.out).mono ?_;rintro e w2 ⟨A2,c2,F2,rfl,hO2,hb2⟩;have HB2:=I' (show Below w.heap.size w w2 from ah hb1 hb2);have RZ:=I' (hO2.mono hb1.size);clear hO2 hb2 hb1 HW;go_wp2_with fail
    go_loopw [19] (fun j wr=>∃k:Nat,k≤xs.length∧j = .int .i64 (k:Int)∧Own wr w.heap.size (normUp xs k) [.slice A2 xs.length c2] F2∧nN F2 w2 wr) (fun j _=>xs.length - (intOf j).toNat)
    case atStart=>exact ⟨0,Nat.zero_le _,rfl,by rw [normUp_zero];exact RZ.out,.refl _ _⟩
    case round =>
     obtain ⟨k,hk,rfl,hO,hu⟩:=hrel;by_cases hlt:k < xs.length
     ·obtain ⟨b,o,ck,Fk,rfl,o9,hsub,hbk,LM,hE,hcl⟩:=hO.elt (k:=k) (by rw [normUp_len xs hk];exact hlt);rw [normUp_get hlt] at LM;have hRe:=LM.rd;obtain ⟨jy,ji,Bo,hck,su,hkey,hop,kV⟩:=og hRe;clear hRe;subst hck su;have hOv:Own wr w.heap.size xs[k].values [.slice jy xs[k].values.length ji] Fk:=⟨kV,LM.nodup,fun y hy=>LM.base y hy,fun y hy=>LM.plain y hy⟩;have hvl:=HV.out xs[k] (List.getElem_mem ..);have HUU:=I' hu;have HSUB:=I' hsub;have HCL:=I' hcl;have HKY:=I' (And.intro hkey hop);clear hO LM hu hsub hcl hkey hop kV;have q0:=hE.at_ (q:=o+k * 3) (j:=0) (by show _ = o+k * 3+0;omega) rfl;have z0:=hE.plain.frozen (o+k * 3);have q1:=hE.at_ (q:=o+k * 3+1) (j:=1) (by show _ = o+k * 3+1;omega) rfl;have z1:=hE.plain.frozen (o+k * 3+1);have q2:=hE.at_ (q:=o+k * 3+2) (j:=2) (by show _ = o+k * 3+2;omega) rfl;have z2:=hE.plain.frozen (o+k * 3+2);go_wp2_with fail
      clear q0 z0 q1 z1 q2 z2;refine (sortStr xs[k].values _ _ _ _ _ hOv hvl).mono ?_;rintro e w3 ⟨rfl,ys,hys,hOy,hUy⟩;have hyl:ys.length = xs[k].values.length:=(by have:=congrArg List.length hys;simpa using this);have HYS:=I' hys;have HE2:=hE.step hUy (fun y hy=>hy) hbk;have HU3:=I' hUy;clear hys hOv hUy hE;have hE:=HE2;clear HE2;have HCO:=I' (compStr ys _ _ _ w3 w.heap.size (by rw [hyl];exact hOy) (by rw [hyl];exact hvl));rw [hyl] at HCO;clear hOy hyl;have q0:=hE.at_ (q:=o+k * 3) (j:=0) (by show _ = o+k * 3+0;omega) rfl;have z0:=hE.plain.frozen (o+k * 3);have q1:=hE.at_ (q:=o+k * 3+1) (j:=1) (by show _ = o+k * 3+1;omega) rfl;have z1:=hE.plain.frozen (o+k * 3+1);have q2:=hE.at_ (q:=o+k * 3+2) (j:=2) (by show _ = o+k * 3+2;omega) rfl;have z2:=hE.plain.frozen (o+k * 3+2);go_wp2_with fail
      clear q0 z0 q1 z1 q2 z2;refine HCO.out.mono ?_;rintro e w4 ⟨zs,rfl,hzs,hOz,hUz⟩;have hz:=vals_of HYS.out hzs;have HE2:=hE.step hUz (fun y hy=>hy) hbk;have HU4:=I' hUz;clear hE hzs hUz HCO;have hE:=HE2;clear HE2;subst hz;have q0:=hE.at_ (q:=o+k * 3) (j:=0) (by show _ = o+k * 3+0;omega) rfl;have z0:=hE.plain.frozen (o+k * 3);have q1:=hE.at_ (q:=o+k * 3+1) (j:=1) (by show _ = o+k * 3+1;omega) rfl;have z1:=hE.plain.frozen (o+k * 3+1);have q2:=hE.at_ (q:=o+k * 3+2) (j:=2) (by show _ = o+k * 3+2;omega) rfl;have z2:=hE.plain.frozen (o+k * 3+2);go_wp2_with fail
      clear q0 z0 q1 z1 q2 z2;have hE5:=hE.set (j:=2) (q:=o+k * 3+2) S' (by show _ = o+k * 3+2;omega) (.slice jy (valsR xs[k].values).length ji);simp only [List.set_cons_zero,List.set_cons_succ] at hE5;have hOv5:=hOz.JA (p:=⟨b,o+k * 3+2,none⟩) hbk (.slice jy (valsR xs[k].values).length ji);have hOn:Own (w4.setCell ⟨b,o+k * 3+2,none⟩ (.slice jy (valsR xs[k].values).length ji)) w.heap.size (normN xs[k]) [.string xs[k].key,.int .i64 xs[k].op,.slice jy (valsR xs[k].values).length ji] Fk:=by
       refine Own.up (B':=w.heap.size) (fun x:Need=>(x.key,x.op,x.values)) ?_ (Nat.le_refl _);refine Own.cons (c1:=[.string xs[k].key]) (rdStr _ _ (rV HKY.out.1)) ?_;refine Own.cons (c1:=[.int .i64 xs[k].op]) (jL _ _ HKY.out.2) ?_;exact hOv5
      have hfin:=HCL.out _ _ _ hOn hE5;rw [normUp_set hlt] at hfin;exact ⟨⟨k+1,O',N',hfin,HUU.out.trans (hE5.upd.mono fun x hx=>by rcases List.mem_cons.1 hx with rfl | hx;exact o9;exact HSUB.out x hx)⟩,by simp [intOf];omega⟩
     ·have hkl:k = xs.length:=O';subst hkl;rw [normUp_all] at hO;have hbw:Below w.heap.size w wr:=HB2.out.trans (hu.below (fun y hy=>RZ.out.base y hy) HB2.out.size);have hok:∀x∈xs.map normN,(x.values.length:Int)≤1048576:=fun x hx=>by
       obtain ⟨y,hy,rfl⟩:=List.mem_map.1 hx;exact (normN_sm (by have:=Eo.out y hy;omega)).2.1
      have hSF:=sortNeed (xs.map normN) A2 c2 F2 wr w.heap.size (by rw [List.length_map];exact hO) hbw.size awH hok;rw [List.length_map] at hSF;have HSF:=I' hSF;have HOK:=I' hok;have HBW:=I' hbw;clear hSF hok hbw hO hu RZ HB2;go_wp2_with fail
      refine HSF.out.mono ?_;rintro e w2 ⟨rfl,ys,F3,hp,hs,hO2,hb2⟩;have hlen:ys.length = xs.length:=(by rw [hp.length_eq,List.length_map]);have hu:=kept_uniq totNeed neNeed_iff hp hs;have hc2:=compNeed ys A2 c2 F3 w2 w.heap.size (by rw [hlen];exact hO2) (Nat.le_trans HBW.out.size hb2.size) (by rw [hlen];exact hl) (fun x hx=>HOK.out x (hp.mem_iff.1 hx));rw [hlen] at hc2 hu;have HU:=I' (show kept neNeed ys xs.length = needsU xs from hu);have HC:=I' hc2;have HB2:=I' (show Below w.heap.size w w2 from HBW.out.trans hb2);clear hs hp hO2 hb2 hlen hu hc2 HSF HOK HBW;go_wp2_with fail
      refine HC.out.mono ?_;rw [HU.out];rintro e w3 ⟨F4,rfl,hO3,hb3⟩;have HB3:=I' (show Below w.heap.size w w3 from HB2.out.trans hb3);have HO3:=I' hO3;have hlu:((needsU xs).length:Int)≤1048576:=(by have:=needsU_len xs;omega);have HK:=I' (WI (needsU xs) _ _ _ _ w3 hO3.rd rfl hlu (fun l hl=>by obtain ⟨x,hx,rfl⟩:=needsU_mem hl;exact normN_sm (by have:=Eo.out x hx;omega)));clear hb3 hO3 HC HU HB2;cases hr:aeH (needsU xs) with
      | true =>
        have HR:=I' (sortNeedsR_yes h40 HS.out hr);have HRR:=I' hr;clear hr;go_wp2_with fail
        refine HK.out.mono ?_;rw [HRR.out];rintro e w4 ⟨rfl,hb4⟩;have HB4:=I' hb4;clear hb4;go_wp2;go_ret2
        exact ⟨A2,c2,F4,by rw [HR.out];try rfl,by rw [HR.out];exact HO3.out.ext HB4.out,HB3.out.trans (HB4.out.mono HB3.out.size)⟩
      | false =>
        have HR:=I' (sortNeedsR_no hr);have HRR:=I' hr;clear hr;go_wp2_with fail
        refine HK.out.mono ?_;rw [HRR.out];rintro e w4 ⟨rfl,hb4⟩;have HB4:=I' (show Below w.heap.size w w4 from HB3.out.trans (hb4.mono HB3.out.size));clear hb4;go_wp2_with fail
        refine (ahY xs A c F w4 (h.ext HB4.out) hl HV.out).mono ?_;exact Zab3
 ·have HR:=I' (sortNeedsR_long h40);go_enter Tryz.func123,Tryz.ntmps123;go_wp2_with fail
  refine (ahY xs A c F w h hl HV.out).mono ?_;exact Zact
end Go.Proofs.YtkbkikggodlbbaaGreat
