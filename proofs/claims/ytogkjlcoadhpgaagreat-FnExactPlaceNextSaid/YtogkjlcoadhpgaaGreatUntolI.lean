/- slices.IndexFunc of the closure of Untolerated. No condition. -/
import Derived.Test.YtogkjlcoadhpgaaGreatTaintOk
import Derived.Test.YtogkjlcoadhpgaaGreatAt
namespace Go.Proofs.YtogkjlcoadhpgaaGreat
open Go.ChangeShapes Go.WideShapes Go.ChangeAt Go.RowKit
set_option linter.unusedVariables false
set_option linter.unusedSimpArgs false
theorem apN {α:Type} (p:α→Bool):∀xs:List α,xs.any p = decide (0≤pK p xs)
 | []=>rfl
 | x :: xs=>by
   have h:=apN p xs
   simp only [List.any_cons,pK,h]
   by_cases hp:p x = true
   ·simp [hp]
   ·exact Zadm
def Ws (ts:List bH) (eff:Int) (x:iU):Bool:=(x.effect == eff)&&!(ts.any fun t=>AY t x)
def BD (ts:List bH) (eff:Int) (xs:List iU):Nat:=(xs.filter (Ws ts eff)).length
theorem ahR {ts:List bH} {eff:Int} {xs:List iU} {k:Nat} (h:k < xs.length) (hp:Ws ts eff xs[k] = true):BD ts eff (xs.take (k+1)) = BD ts eff (xs.take k)+1:=by
 unfold BD;rw [List.take_succ_eq_append_getElem h,List.filter_append];simp [hp]
theorem ady {ts:List bH} {eff:Int} {xs:List iU} {k:Nat} (h:k < xs.length) (hp:Ws ts eff xs[k] = false):BD ts eff (xs.take (k+1)) = BD ts eff (xs.take k):=by
 unfold BD;rw [List.take_succ_eq_append_getElem h,List.filter_append];simp [hp]
theorem UN (ts:List bH) (eff:Int) (xs:List iU):BD ts eff xs≤xs.length:=List.length_filter_le _ _
theorem aee (ts:List bH) (eff:Int) (xs:List iU) (k:Nat):BD ts eff (xs.take k)≤k:=Nat.le_trans (UN _ _ _) avI
set_option maxHeartbeats 400000 in
theorem ajk (t:bH) (cs:List Value) (F:List Nat) (x:iU) (q:Nat) (w:World) (h:rd w t cs F) (hq0:w.cell? ⟨q,0,none⟩ = some (.string x.key)) (hq1:w.cell? ⟨q,1,none⟩ = some (.string x.value)) (hq2:w.cell? ⟨q,2,none⟩ = some (.int .i64 x.effect)) (hx:I64 x.effect) (hql:q < w.heap.size)
 (hks:(t.key.size:Int)≤1048576) (hvs:(t.value.size:Int)≤1048576) (aiD:(x.key.size:Int)≤1048576) (hvs':(x.value.size:Int)≤1048576) :
 Calls Tryz.prog 204 #[.agg cs.toArray,.pointer (some ⟨q,0,none⟩)] w fun e w'=>e = .returned (.bool (AY t x))∧Below w.heap.size w w':=by
 obtain ⟨hck,hF,hkey,kP,lD⟩:=jv h
 subst hck
 subst hF
 go_enter Tryz.func204,Tryz.ntmps204
 go_wp2_with fail
 refine (ahM t x _ _ [] [] _ (aJ h atS) (Q8 _ x at6 at6 hx) hks hvs aiD hvs').mono ?_
 rintro e w2 ⟨rfl,hb2⟩
 go_wp2
 go_ret
 exact ⟨rfl,atS⟩
set_option maxHeartbeats 1000000 in
theorem anA (ts:List bH) (A:Option Addr) (n c:Nat) (F:List Nat) (x:iU) (q:Nat) (w:World) (h:Sl w ts A c F) (hn:n = ts.length) (hq0:w.cell? ⟨q,0,none⟩ = some (.string x.key)) (hq1:w.cell? ⟨q,1,none⟩ = some (.string x.value)) (hq2:w.cell? ⟨q,2,none⟩ = some (.int .i64 x.effect)) (hx:I64 x.effect) (hql:q < w.heap.size) (hl:(ts.length:Int)≤1048576)
 (hsm:(∀t∈ts,(t.key.size:Int)≤1048576∧(t.value.size:Int)≤1048576)) (aiD:(x.key.size:Int)≤1048576) (hvs':(x.value.size:Int)≤1048576) :
 Calls Tryz.prog 211 #[.slice A n c,.func (.func 204) #[] #[.pointer (some ⟨q,0,none⟩)]] w fun e w'=>e = .returned (.int .i64 (pK (fun t=>AY t x) ts))∧Below w.heap.size w w':=by
 subst hn
 have Eo:=Lib.hid hsm
 clear hsm
 go_enter Tryz.func211,Tryz.ntmps211
 go_wp2
 go_loopw [5,8] (fun _ i wr=>∃k:Nat,k≤ts.length∧i = .int .i64 k∧Hid (∀t∈ts.take k,AY t x = false)∧Below w.heap.size w wr) (fun _ i _=>ts.length - (intOf i).toNat)
 case atStart=>exact ⟨0,Nat.zero_le _,rfl,by show ∀_,_;simp,aj _⟩
 case round =>
  obtain ⟨k,hk,rfl,Hn,hbl⟩:=hrel
  by_cases hlt:k < ts.length
  ·obtain ⟨b,o,ck,Fk,rfl,o9,hbs,hr,hsub,hc⟩:=(h.ext hbl).get hlt
   obtain ⟨hck,su,hkey,kP,lD⟩:=jv hr
   subst hck
   have q0:wr.cell? ⟨b,o+k * 4,none⟩ = some (.string ts[k].key):=by exact hc 0 _ rfl
   have q1:wr.cell? ⟨b,o+k * 4+1,none⟩ = some (.bool ts[k].equal):=by rw [Nat.add_assoc];exact hc 1 _ rfl
   have q2:wr.cell? ⟨b,o+k * 4+2,none⟩ = some (.string ts[k].value):=by rw [Nat.add_assoc];exact hc 2 _ rfl
   have q3:wr.cell? ⟨b,o+k * 4+3,none⟩ = some (.int .i64 ts[k].effect):=by rw [Nat.add_assoc];exact hc 3 _ rfl
   clear hc
   have hr0:=hbl.cell (p:=⟨q,0,none⟩) hql
   have hr1:=hbl.cell (p:=⟨q,1,none⟩) hql
   have hr2:=hbl.cell (p:=⟨q,2,none⟩) hql
   rw [hq0] at hr0
   rw [hq1] at hr1
   rw [hq2] at hr2
   have alF:q < wr.heap.size:=Nat.lt_of_lt_of_le hql hbl.size
   obtain ⟨hs1,hs2⟩:=Eo.out ts[k] (List.getElem_mem ..)
   cases hp:AY ts[k] x with
   | false =>
     have HP:=Lib.hid hp
     clear hp
     go_wp2_with (go_at_call 204;refine (ajk ts[k] _ _ x q _ hr hr0 hr1 hr2 hx alF hs1 hs2 aiD hvs').mono ?_;rw [HP.out];rintro e w2 ⟨rfl,hb2⟩)
     exact ⟨⟨k+1,by omega,by go_num,yQ (p:=fun t=>AY t x) hlt Hn.out HP.out,ah hbl hb2⟩,by simp [intOf];omega⟩
   | true =>
     have HP:=Lib.hid hp
     clear hp
     have HI:=Lib.hid (Fj (p:=fun t=>AY t x) hlt Hn.out HP.out)
     go_wp2_with (go_at_call 204;refine (ajk ts[k] _ _ x q _ hr hr0 hr1 hr2 hx alF hs1 hs2 aiD hvs').mono ?_;rw [HP.out];rintro e w2 ⟨rfl,hb2⟩)
     go_ret
     exact ⟨by rw [HI.out];rfl,ah hbl hb2⟩
  ·have hkl:k = ts.length:=by omega
   subst hkl
   have hn:=Hn.out
   rw [List.take_length] at hn
   have HI:=Lib.hid (F5 (p:=fun t=>AY t x) hn)
   clear hn
   go_wp2
   go_ret
   exact ⟨by rw [HI.out];rfl,hbl⟩
end Go.Proofs.YtogkjlcoadhpgaaGreat
namespace Go.Proofs.YtogkjlcoadhpgaaGreat
open Go.ChangeShapes Go.WideShapes Go.ChangeAt Go.RowKit
set_option linter.unusedVariables false
set_option linter.unusedSimpArgs false
set_option maxRecDepth 100000 in
set_option maxHeartbeats 1000000 in
theorem ahS (ts:List bH) (A:Option Addr) (n c:Nat) (F:List Nat) (x:iU) (q:Nat) (w:World) (h:Sl w ts A c F) (hn:n = ts.length) (hq0:w.cell? ⟨q,0,none⟩ = some (.string x.key)) (hq1:w.cell? ⟨q,1,none⟩ = some (.string x.value)) (hq2:w.cell? ⟨q,2,none⟩ = some (.int .i64 x.effect)) (hx:I64 x.effect) (hql:q < w.heap.size) (hl:(ts.length:Int)≤1048576)
 (hsm:(∀t∈ts,(t.key.size:Int)≤1048576∧(t.value.size:Int)≤1048576)) (aiD:(x.key.size:Int)≤1048576) (hvs':(x.value.size:Int)≤1048576) :
 Calls Tryz.prog 203 #[.slice A n c,.func (.func 204) #[] #[.pointer (some ⟨q,0,none⟩)]] w fun e w'=>e = .returned (.bool (ts.any fun t=>AY t x))∧Below w.heap.size w w':=by
 subst hn
 have hab:=apN (fun t=>AY t x) ts
 have Eo:=Lib.hid hsm
 clear hsm
 have hix:=anA ts A _ c F x q w h rfl hq0 hq1 hq2 hx hql hl Eo.out aiD hvs'
 generalize pK (fun t=>AY t x) ts = z at hab hix
 rw [hab]
 clear hab Eo
 go_enter Tryz.func203,Tryz.ntmps203
 go_wp2_with fail
 refine hix.mono ?_
 rintro e w2 ⟨rfl,hb2⟩
 go_wp2
 go_ret
 exact ⟨rfl,hb2⟩
end Go.Proofs.YtogkjlcoadhpgaaGreat
namespace Go.Proofs.YtogkjlcoadhpgaaGreat
open Go.ChangeShapes Go.WideShapes Go.ChangeAt Go.RowKit
set_option linter.unusedVariables false
set_option linter.unusedSimpArgs false
set_option maxRecDepth 100000 in
set_option maxHeartbeats 1000000 in
theorem UO (ts:List bH) (xs:List iU) (eff:Int) (A B:Option Addr) (n m c d:Nat) (F G:List Nat) (w:World) (h:Sl w ts A c F) (h':Sl w xs B d G) (hn:n = ts.length) (hm:m = xs.length) (hl:(ts.length:Int)≤1048576) (hl':(xs.length:Int)≤1048576)
 (hsm:(∀t∈ts,(t.key.size:Int)≤1048576∧(t.value.size:Int)≤1048576)) (hsm':(∀x∈xs,(x.key.size:Int)≤1048576∧(x.value.size:Int)≤1048576)) :
 Calls Tryz.prog 192 #[.slice A n c,.slice B m d,.int .i64 eff] w fun e w'=>e = .returned (.int .i64 (BD ts eff xs))∧Below w.heap.size w w':=by
 subst hm
 subst hn
 have Eo:=Lib.hid hsm
 have HSX:=Lib.hid hsm'
 clear hsm hsm'
 go_enter Tryz.func192,Tryz.ntmps192
 go_wp2_with fail
 go_loopw [7,12] (fun x i wr=>∃k:Nat,k≤xs.length∧i = .int .i64 k∧x = .int .i64 (BD ts eff (xs.take k))∧Below w.heap.size w wr) (fun _ i _=>xs.length - (intOf i).toNat)
 case atStart=>exact ⟨0,Nat.zero_le _,rfl,rfl,atS⟩
 case round =>
  obtain ⟨k,hk,rfl,rfl,hbl⟩:=hrel
  by_cases hlt:k < xs.length
  ·obtain ⟨b,o,ck,Fk,rfl,o9,hbs,hr,hsub,hc⟩:=(Sl.ext (w':=wr) (A:=B) (c:=d) h' hbl).get hlt
   obtain ⟨hck,su,hkey,kP,lD⟩:=oK hr
   subst hck
   have q0:wr.cell? ⟨b,o+k * 3,none⟩ = some (.string xs[k].key):=by exact hc 0 _ rfl
   have q1:wr.cell? ⟨b,o+k * 3+1,none⟩ = some (.string xs[k].value):=by rw [Nat.add_assoc];exact hc 1 _ rfl
   have q2:wr.cell? ⟨b,o+k * 3+2,none⟩ = some (.int .i64 xs[k].effect):=by rw [Nat.add_assoc];exact hc 2 _ rfl
   clear hc
   obtain ⟨hs1,hs2⟩:=HSX.out xs[k] (List.getElem_mem ..)
   have hnt:=aee ts eff xs k
   cases hef:(xs[k].effect == eff) with
   | false =>
     have hp:Ws ts eff xs[k] = false:=by unfold Ws;rw [hef];rfl
     have HN:=Lib.hid (ady hlt hp)
     clear hp
     go_wp2
     exact ⟨⟨k+1,by omega,by go_num,by rw [HN.out] <;> first | rfl | go_num,ak hbl _⟩,by simp [intOf];omega⟩
   | true =>
     cases han:(ts.any fun t=>AY t xs[k])
     all_goals
      have hp:Ws ts eff xs[k] = _:=(by unfold Ws;rw [hef,han])
      have HA:=Lib.hid han
      clear han
      first | have HN:=Lib.hid (ahR hlt hp) | have HN:=Lib.hid (ady hlt hp)
      clear hp
      go_wp2_with (go_at_call 203;refine (ahS ts A _ c F xs[k] wr.heap.size _ (Sl.ext (Sl.ext (w':=wr) h hbl) atS) rfl awG awG awG lD (by simp) hl Eo.out hs1 hs2).mono ?_;rw [HA.out];rintro e w2 ⟨rfl,hb2⟩)
      exact ⟨⟨k+1,by omega,by go_num,by rw [HN.out] <;> first | rfl | go_num,ah (ak hbl _) hb2⟩,by simp [intOf];omega⟩
  ·have hkl:k = xs.length:=by omega
   subst hkl
   go_wp2
   go_ret
   exact ⟨by rw [List.take_length];rfl,hbl⟩
set_option maxRecDepth 100000 in
set_option maxHeartbeats 1000000 in
theorem UQ (ts:List bH) (xs:List iU) (eff:Int) (A B:Option Addr) (n m c d:Nat) (F G:List Nat) (w:World) (h:Sl w ts A c F) (h':Sl w xs B d G) (hn:n = ts.length) (hm:m = xs.length) (hl:(ts.length:Int)≤1048576) (hl':(xs.length:Int)≤1048576)
 (hsm:(∀t∈ts,(t.key.size:Int)≤1048576∧(t.value.size:Int)≤1048576)) (hsm':(∀x∈xs,(x.key.size:Int)≤1048576∧(x.value.size:Int)≤1048576)) :
 Calls Tryz.prog 179 #[.slice A n c,.slice B m d,.int .i64 eff] w fun e w'=>e = .returned (.int .i64 (BD ts eff xs))∧Below w.heap.size w w':=by
 subst hm
 subst hn
 have Eo:=Lib.hid hsm
 have HSX:=Lib.hid hsm'
 clear hsm hsm'
 go_enter Tryz.func179,Tryz.ntmps179
 go_wp2_with fail
 go_loopw [7,8] (fun x i wr=>∃k:Nat,k≤xs.length∧i = .int .i64 k∧x = .int .i64 (BD ts eff (xs.take k))∧Below w.heap.size w wr) (fun _ i _=>xs.length - (intOf i).toNat)
 case atStart=>exact ⟨0,Nat.zero_le _,rfl,rfl,atS⟩
 case round =>
  obtain ⟨k,hk,rfl,rfl,hbl⟩:=hrel
  by_cases hlt:k < xs.length
  ·obtain ⟨b,o,ck,Fk,rfl,o9,hbs,hr,hsub,hc⟩:=(Sl.ext (w':=wr) (A:=B) (c:=d) h' hbl).get hlt
   obtain ⟨hck,su,hkey,kP,lD⟩:=oK hr
   subst hck
   have q0:wr.cell? ⟨b,o+k * 3,none⟩ = some (.string xs[k].key):=by exact hc 0 _ rfl
   have q1:wr.cell? ⟨b,o+k * 3+1,none⟩ = some (.string xs[k].value):=by rw [Nat.add_assoc];exact hc 1 _ rfl
   have q2:wr.cell? ⟨b,o+k * 3+2,none⟩ = some (.int .i64 xs[k].effect):=by rw [Nat.add_assoc];exact hc 2 _ rfl
   clear hc
   obtain ⟨hs1,hs2⟩:=HSX.out xs[k] (List.getElem_mem ..)
   have hnt:=aee ts eff xs k
   generalize hz:(BD ts eff (xs.take k):Int) = z at *
   have hkk:((xs[k].effect != eff) || (ts.take 0).any (fun t=>AY t xs[k])) = (xs[k].effect != eff):=by simp
   obtain ⟨wo,hwo⟩:∃wo,wo = wr:=⟨_,rfl⟩
   subst hwo
   go_wp2_with fail
   go_loopw [9,10] (fun v u wi=>∃j:Nat,j≤ts.length∧u = .int .i64 j∧v = .bool ((xs[k].effect != eff) || (ts.take j).any (fun t=>AY t xs[k]))∧Below w.heap.size w wi∧Below wo.heap.size wo wi) (fun _ u _=>ts.length - (intOf u).toNat)
   case atStart=>exact ⟨0,Nat.zero_le _,rfl,by rw [hkk],hbl,aj _⟩
   case round =>
    obtain ⟨j,hj,rfl,rfl,hbi,hbw⟩:=hrel
    replace q0:=((ay hbw).1 b _ hbs).trans q0
    replace q1:=((ay hbw).1 b _ hbs).trans q1
    replace q2:=((ay hbw).1 b _ hbs).trans q2
    replace hbs:=Nat.lt_of_lt_of_le hbs hbw.size
    by_cases hjl:j < ts.length
    ·obtain ⟨b2,o2,ck2,Fk2,rfl,hbF2,uO,hr2,hsub2,hc2⟩:=(Sl.ext (w':=wr) (A:=A) (c:=c) h hbi).get hjl
     obtain ⟨hck,abT,vC,rP,uY⟩:=jv hr2
     subst hck
     have p0:wr.cell? ⟨b2,o2+j * 4,none⟩ = some (.string ts[j].key):=by exact hc2 0 _ rfl
     have p1:wr.cell? ⟨b2,o2+j * 4+1,none⟩ = some (.bool ts[j].equal):=by rw [Nat.add_assoc];exact hc2 1 _ rfl
     have p2:wr.cell? ⟨b2,o2+j * 4+2,none⟩ = some (.string ts[j].value):=by rw [Nat.add_assoc];exact hc2 2 _ rfl
     have p3:wr.cell? ⟨b2,o2+j * 4+3,none⟩ = some (.int .i64 ts[j].effect):=by rw [Nat.add_assoc];exact hc2 3 _ rfl
     clear hc2
     obtain ⟨ht1,ht2⟩:=Eo.out ts[j] (List.getElem_mem ..)
     have hst:(ts.take (j+1)).any (fun t=>AY t xs[k]) = ((ts.take j).any (fun t=>AY t xs[k]) || AY ts[j] xs[k]):=by rw [List.take_succ_eq_append_getElem hjl,List.any_append];simp
     generalize hv:((xs[k].effect != eff) || (ts.take j).any (fun t=>AY t xs[k])) = v at *
     have hnx:((xs[k].effect != eff) || (ts.take (j+1)).any (fun t=>AY t xs[k])) = (v || AY ts[j] xs[k]):=by rw [hst,← Bool.or_assoc,hv]
     have Jf:=Lib.hid hnx
     clear hnx hst hv hkk
     cases v
     all_goals
      go_wp2_with fail
      refine aF _ (by kernel_rfl) (by kernel_rfl) (aj _) ?_
      repeat (first
       | (apply aG
          case hw=>rfl
          simp only [Act.put,pz])
       | (apply aH
          case hw=>rfl
          case h =>
           intro wq hq
           have hcq:=(aB hq).1
           have lJ:=(aB hq).2
           go_simp
           first
            | exact ⟨hq,rfl⟩
            | exact ⟨aQ hq _,rfl⟩
            | (refine (ahN ts[j] xs[k] _ _ _ [] _ (aJ hr2 atV) (Q8 _ xs[k] hkey kP lD) ht1 ht2 hs1 hs2).mono ?_;rintro e w2 ⟨rfl,hb2⟩;exact ⟨rfl,aI hq hb2⟩)
            | (simp only [↓IntWalk.iteOmega];exact ⟨hq,rfl⟩)
          simp only [Act.put,pz]))
      refine aN ?_
      intro wn hn
      replace hn:=hn.out
      go_wp2
      exact ⟨⟨j+1,by omega,by go_num,by rw [Jf.out];rfl,ah hbi hn,ah hbw hn⟩,by simp [intOf];omega⟩
    ·have hjo:j = ts.length:=by omega
     subst hjo
     rw [List.take_length]
     cases hef:(xs[k].effect == eff) <;> cases han:(ts.any fun t=>AY t xs[k])
     all_goals
      have hp:Ws ts eff xs[k] = _:=(by unfold Ws;rw [hef,han])
      simp only [Bool.false_and,Bool.true_and,Bool.not_true,Bool.not_false] at hp
      first | have HN:=Lib.hid (ahR hlt hp) | have HN:=Lib.hid (ady hlt hp)
      have hne:(xs[k].effect != eff) = _:=(by unfold bne;rw [hef])
      rw [hne]
      clear hp han
      go_wp2
      exact ⟨⟨k+1,by omega,by go_num,by rw [HN.out,← hz] <;> first | rfl | go_num,hbi⟩,by simp [intOf];omega⟩
  ·have hkl:k = xs.length:=by omega
   subst hkl
   go_wp2
   go_ret
   exact ⟨by rw [List.take_length];rfl,hbl⟩
end Go.Proofs.YtogkjlcoadhpgaaGreat
