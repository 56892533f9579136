/- slices.SortFunc at []Need: the shelf's contract at this program. No condition. -/
import Derived.Test.YtkbkikggodlbbaaGreatStabM
import Derived.Test.YtkbkikggodlbbaaGreatValsB
import Derived.Test.YtkbkikggodlbbaaGreatLabelsOk
import Derived.Test.YtkbkikggodlbbaaGreatLaw0
namespace Go.Proofs.YtkbkikggodlbbaaGreat
open Go.ChangeShapes Go.WideShapes Go.ChangeAt Go.RowKit Go.Shelf
def renNeed:Go.Shelf.Ren:={
 f:=fun x=>match x with
  | 6=>171
  | 14=>194
  | 15=>193
  | 20=>218
  | 21=>219
  | 22=>220
  | 23=>221
  | 24=>222
  | 25=>223
  | 26=>224
  | 27=>225
  | 28=>216
  | 29=>217
  | 46=>251
  | 47=>246
  | 48=>247
  | 49=>252
  | 50=>253
  | 57=>263
  | n=>n
 t:=fun x=>match x with
  | 0=>0
  | 3=>3
  | 4=>4
  | 5=>5
  | 9=>9
  | 22=>49
  | 24=>158
  | 25=>194
  | 39=>208
  | 45=>220
  | 46=>221
  | 50=>184
  | 53=>227
  | 55=>229
  | 66=>245
  | 70=>249
  | 76=>257
  | 77=>258
  | n=>n
 g:=fun n=>n }
theorem laySFNeed:SlLaysF0.n6 Tryz.prog renNeed:={
 mixed:=rfl
 f6:=⟨_,U',Tryz.func171.trans (congrArg some rfl)⟩
 f14:=⟨_,U',Tryz.func194.trans (congrArg some rfl)⟩
 f15:=Tryz.func193.trans (congrArg some rfl)
 f20:=⟨_,U',Tryz.func218.trans (congrArg some rfl)⟩
 f21:=⟨_,U',Tryz.func219.trans (congrArg some rfl)⟩
 f22:=⟨_,U',Tryz.func220.trans (congrArg some rfl)⟩
 f23:=⟨_,U',Tryz.func221.trans (congrArg some rfl)⟩
 f24:=⟨_,U',Tryz.func222.trans (congrArg some rfl)⟩
 f25:=⟨_,U',Tryz.func223.trans (congrArg some rfl)⟩
 f26:=⟨_,U',Tryz.func224.trans (congrArg some rfl)⟩
 f27:=⟨_,U',Tryz.func225.trans (congrArg some rfl)⟩
 f28:=Tryz.func216.trans (congrArg some rfl)
 f29:=Tryz.func217.trans (congrArg some rfl)
 f46:=⟨_,U',Tryz.func251.trans (congrArg some rfl)⟩
 f47:=Tryz.func246.trans (congrArg some rfl)
 f48:=Tryz.func247.trans (congrArg some rfl)
 f49:=⟨_,U',Tryz.func252.trans (congrArg some rfl)⟩
 f50:=⟨_,U',Tryz.func253.trans (congrArg some rfl)⟩
 f57:=⟨_,U',Tryz.func263.trans (congrArg some rfl)⟩
 t0:=Tryz.underlying0
 a0:=Tryz.isAgg0
 z0:=Tryz.sizeOf0
 v0:=Tryz.zeroValue0
 t3:=Tryz.underlying3
 a3:=Tryz.isAgg3
 z3:=Tryz.sizeOf3
 v3:=Tryz.zeroValue3
 t4:=Tryz.underlying4
 a4:=Tryz.isAgg4
 z4:=Tryz.sizeOf4
 v4:=Tryz.zeroValue4
 t5:=Tryz.underlying5
 a5:=Tryz.isAgg5
 z5:=Tryz.sizeOf5
 v5:=Tryz.zeroValue5
 t9:=Tryz.underlying9
 a9:=Tryz.isAgg9
 z9:=Tryz.sizeOf9
 v9:=Tryz.zeroValue9
 t22:=Tryz.underlying49
 a22:=Tryz.isAgg49
 z22:=Tryz.sizeOf49
 v22:=Tryz.zeroValue49
 t25:=Tryz.underlying194
 a25:=Tryz.isAgg194
 z25:=Tryz.sizeOf194
 v25:=Tryz.zeroValue194
 t39:=Tryz.underlying208
 a39:=Tryz.isAgg208
 z39:=Tryz.sizeOf208
 v39:=Tryz.zeroValue208
 t45:=Tryz.underlying220
 a45:=Tryz.isAgg220
 z45:=Tryz.sizeOf220
 v45:=Tryz.zeroValue220
 t46:=Tryz.underlying221
 a46:=Tryz.isAgg221
 z46:=Tryz.sizeOf221
 v46:=Tryz.zeroValue221
 t50:=Tryz.underlying184
 a50:=Tryz.isAgg184
 z50:=Tryz.sizeOf184
 v50:=Tryz.zeroValue184
 t53:=Tryz.underlying227
 a53:=Tryz.isAgg227
 z53:=Tryz.sizeOf227
 v53:=Tryz.zeroValue227
 t55:=Tryz.underlying229
 a55:=Tryz.isAgg229
 z55:=Tryz.sizeOf229
 v55:=Tryz.zeroValue229
 t66:=Tryz.underlying245
 a66:=Tryz.isAgg245
 z66:=Tryz.sizeOf245
 v66:=Tryz.zeroValue245
 t70:=Tryz.underlying249
 a70:=Tryz.isAgg249
 z70:=Tryz.sizeOf249
 v70:=Tryz.zeroValue249
 t76:=Tryz.underlying257
 a76:=Tryz.isAgg257
 z76:=Tryz.sizeOf257
 v76:=Tryz.zeroValue257
 t77:=Tryz.underlying258
 a77:=Tryz.isAgg258
 z77:=Tryz.sizeOf258
 v77:=Tryz.zeroValue258 }
theorem sortNeed (xs:List Need) (A:Option Addr) (c:Nat) (F:List Nat) (w:World) (B:Nat) (h:Own w B xs [.slice A xs.length c] F) (hB:B≤w.heap.size) (hl:(xs.length:Int)≤1048576) (hok:∀x∈xs,(x.values.length:Int)≤1048576) :
 Calls Tryz.prog 171 #[.slice A xs.length c,.func (.func 172) #[] #[]] w fun e w'=>e = .returned (.tuple #[])∧∃(ys:List Need) (F':List Nat),ys.Perm xs∧ys.Pairwise (fun x y=>decide (Qa (W9 y x) < 0) = false)∧Own w' B ys [.slice A xs.length c] F'∧Below B w w' :=
 SortFunc_own (T:=Need) renNeed laySFNeed Tryz.isAgg158 Tryz.sizeOf158 (fun x y:Need=>Qa (W9 x y)) totNeed 172 (enters_of Tryz.func172 U' rfl) (fun x:Need=>(x.values.length:Int)≤1048576) (fun x y cs ds F G W h h' o1 o2=>compareNeeds_gr x y cs ds F G W h h' o1 o2) xs A c F w B h hB hl hok
def renTaint:Go.Shelf.Ren:={
 f:=fun x=>match x with
  | 6=>178
  | 14=>198
  | 15=>193
  | 20=>235
  | 21=>236
  | 22=>237
  | 23=>238
  | 24=>239
  | 25=>240
  | 26=>241
  | 27=>242
  | 28=>216
  | 29=>217
  | 46=>257
  | 47=>246
  | 48=>247
  | 49=>258
  | 50=>259
  | 57=>265
  | n=>n
 t:=fun x=>match x with
  | 0=>0
  | 3=>3
  | 4=>4
  | 5=>5
  | 9=>9
  | 22=>53
  | 24=>162
  | 25=>186
  | 39=>208
  | 45=>220
  | 46=>221
  | 50=>184
  | 53=>227
  | 55=>229
  | 66=>245
  | 70=>249
  | 76=>257
  | 77=>258
  | n=>n
 g:=fun n=>n }
theorem laySFTaint:SlLaysF0.n6 Tryz.prog renTaint:={
 mixed:=rfl
 f6:=⟨_,U',Tryz.func178.trans (congrArg some rfl)⟩
 f14:=⟨_,U',Tryz.func198.trans (congrArg some rfl)⟩
 f15:=Tryz.func193.trans (congrArg some rfl)
 f20:=⟨_,U',Tryz.func235.trans (congrArg some rfl)⟩
 f21:=⟨_,U',Tryz.func236.trans (congrArg some rfl)⟩
 f22:=⟨_,U',Tryz.func237.trans (congrArg some rfl)⟩
 f23:=⟨_,U',Tryz.func238.trans (congrArg some rfl)⟩
 f24:=⟨_,U',Tryz.func239.trans (congrArg some rfl)⟩
 f25:=⟨_,U',Tryz.func240.trans (congrArg some rfl)⟩
 f26:=⟨_,U',Tryz.func241.trans (congrArg some rfl)⟩
 f27:=⟨_,U',Tryz.func242.trans (congrArg some rfl)⟩
 f28:=Tryz.func216.trans (congrArg some rfl)
 f29:=Tryz.func217.trans (congrArg some rfl)
 f46:=⟨_,U',Tryz.func257.trans (congrArg some rfl)⟩
 f47:=Tryz.func246.trans (congrArg some rfl)
 f48:=Tryz.func247.trans (congrArg some rfl)
 f49:=⟨_,U',Tryz.func258.trans (congrArg some rfl)⟩
 f50:=⟨_,U',Tryz.func259.trans (congrArg some rfl)⟩
 f57:=⟨_,U',Tryz.func265.trans (congrArg some rfl)⟩
 t0:=Tryz.underlying0
 a0:=Tryz.isAgg0
 z0:=Tryz.sizeOf0
 v0:=Tryz.zeroValue0
 t3:=Tryz.underlying3
 a3:=Tryz.isAgg3
 z3:=Tryz.sizeOf3
 v3:=Tryz.zeroValue3
 t4:=Tryz.underlying4
 a4:=Tryz.isAgg4
 z4:=Tryz.sizeOf4
 v4:=Tryz.zeroValue4
 t5:=Tryz.underlying5
 a5:=Tryz.isAgg5
 z5:=Tryz.sizeOf5
 v5:=Tryz.zeroValue5
 t9:=Tryz.underlying9
 a9:=Tryz.isAgg9
 z9:=Tryz.sizeOf9
 v9:=Tryz.zeroValue9
 t22:=Tryz.underlying53
 a22:=Tryz.isAgg53
 z22:=Tryz.sizeOf53
 v22:=Tryz.zeroValue53
 t25:=Tryz.underlying186
 a25:=Tryz.isAgg186
 z25:=Tryz.sizeOf186
 v25:=Tryz.zeroValue186
 t39:=Tryz.underlying208
 a39:=Tryz.isAgg208
 z39:=Tryz.sizeOf208
 v39:=Tryz.zeroValue208
 t45:=Tryz.underlying220
 a45:=Tryz.isAgg220
 z45:=Tryz.sizeOf220
 v45:=Tryz.zeroValue220
 t46:=Tryz.underlying221
 a46:=Tryz.isAgg221
 z46:=Tryz.sizeOf221
 v46:=Tryz.zeroValue221
 t50:=Tryz.underlying184
 a50:=Tryz.isAgg184
 z50:=Tryz.sizeOf184
 v50:=Tryz.zeroValue184
 t53:=Tryz.underlying227
 a53:=Tryz.isAgg227
 z53:=Tryz.sizeOf227
 v53:=Tryz.zeroValue227
 t55:=Tryz.underlying229
 a55:=Tryz.isAgg229
 z55:=Tryz.sizeOf229
 v55:=Tryz.zeroValue229
 t66:=Tryz.underlying245
 a66:=Tryz.isAgg245
 z66:=Tryz.sizeOf245
 v66:=Tryz.zeroValue245
 t70:=Tryz.underlying249
 a70:=Tryz.isAgg249
 z70:=Tryz.sizeOf249
 v70:=Tryz.zeroValue249
 t76:=Tryz.underlying257
 a76:=Tryz.isAgg257
 z76:=Tryz.sizeOf257
 v76:=Tryz.zeroValue257
 t77:=Tryz.underlying258
 a77:=Tryz.isAgg258
 z77:=Tryz.sizeOf258
 v77:=Tryz.zeroValue258 }
theorem sortTaint (xs:List iU) (A:Option Addr) (c:Nat) (F:List Nat) (w:World) (B:Nat) (h:Own w B xs [.slice A xs.length c] F) (hB:B≤w.heap.size) (hl:(xs.length:Int)≤1048576) :
 Calls Tryz.prog 178 #[.slice A xs.length c,.func (.func 157) #[] #[]] w fun e w'=>e = .returned (.tuple #[])∧∃(ys:List iU) (F':List Nat),ys.Perm xs∧ys.Pairwise (fun x y=>decide (Qa (ao0 y x) < 0) = false)∧Own w' B ys [.slice A xs.length c] F'∧Below B w w' :=
 SortFunc_own (T:=iU) renTaint laySFTaint Tryz.isAgg162 Tryz.sizeOf162 (fun x y:iU=>Qa (ao0 x y)) totTaint 157 (enters_of Tryz.func157 U' rfl) (fun _:iU=>True) (fun x y cs ds F G W h h' o1 o2=>compareTaints_gr x y cs ds F G W h h') xs A c F w B h hB hl (fun _ _=>trivial)
def renTolerance:Go.Shelf.Ren:={
 f:=fun x=>match x with
  | 6=>175
  | 14=>196
  | 15=>193
  | 20=>227
  | 21=>228
  | 22=>229
  | 23=>230
  | 24=>231
  | 25=>232
  | 26=>233
  | 27=>234
  | 28=>216
  | 29=>217
  | 46=>254
  | 47=>246
  | 48=>247
  | 49=>255
  | 50=>256
  | 57=>264
  | n=>n
 t:=fun x=>match x with
  | 0=>0
  | 3=>3
  | 4=>4
  | 5=>5
  | 9=>9
  | 22=>50
  | 24=>160
  | 25=>187
  | 39=>208
  | 45=>220
  | 46=>221
  | 50=>184
  | 53=>227
  | 55=>229
  | 66=>245
  | 70=>249
  | 76=>257
  | 77=>258
  | n=>n
 g:=fun n=>n }
theorem laySFTolerance:SlLaysF0.n6 Tryz.prog renTolerance:={
 mixed:=rfl
 f6:=⟨_,U',Tryz.func175.trans (congrArg some rfl)⟩
 f14:=⟨_,U',Tryz.func196.trans (congrArg some rfl)⟩
 f15:=Tryz.func193.trans (congrArg some rfl)
 f20:=⟨_,U',Tryz.func227.trans (congrArg some rfl)⟩
 f21:=⟨_,U',Tryz.func228.trans (congrArg some rfl)⟩
 f22:=⟨_,U',Tryz.func229.trans (congrArg some rfl)⟩
 f23:=⟨_,U',Tryz.func230.trans (congrArg some rfl)⟩
 f24:=⟨_,U',Tryz.func231.trans (congrArg some rfl)⟩
 f25:=⟨_,U',Tryz.func232.trans (congrArg some rfl)⟩
 f26:=⟨_,U',Tryz.func233.trans (congrArg some rfl)⟩
 f27:=⟨_,U',Tryz.func234.trans (congrArg some rfl)⟩
 f28:=Tryz.func216.trans (congrArg some rfl)
 f29:=Tryz.func217.trans (congrArg some rfl)
 f46:=⟨_,U',Tryz.func254.trans (congrArg some rfl)⟩
 f47:=Tryz.func246.trans (congrArg some rfl)
 f48:=Tryz.func247.trans (congrArg some rfl)
 f49:=⟨_,U',Tryz.func255.trans (congrArg some rfl)⟩
 f50:=⟨_,U',Tryz.func256.trans (congrArg some rfl)⟩
 f57:=⟨_,U',Tryz.func264.trans (congrArg some rfl)⟩
 t0:=Tryz.underlying0
 a0:=Tryz.isAgg0
 z0:=Tryz.sizeOf0
 v0:=Tryz.zeroValue0
 t3:=Tryz.underlying3
 a3:=Tryz.isAgg3
 z3:=Tryz.sizeOf3
 v3:=Tryz.zeroValue3
 t4:=Tryz.underlying4
 a4:=Tryz.isAgg4
 z4:=Tryz.sizeOf4
 v4:=Tryz.zeroValue4
 t5:=Tryz.underlying5
 a5:=Tryz.isAgg5
 z5:=Tryz.sizeOf5
 v5:=Tryz.zeroValue5
 t9:=Tryz.underlying9
 a9:=Tryz.isAgg9
 z9:=Tryz.sizeOf9
 v9:=Tryz.zeroValue9
 t22:=Tryz.underlying50
 a22:=Tryz.isAgg50
 z22:=Tryz.sizeOf50
 v22:=Tryz.zeroValue50
 t25:=Tryz.underlying187
 a25:=Tryz.isAgg187
 z25:=Tryz.sizeOf187
 v25:=Tryz.zeroValue187
 t39:=Tryz.underlying208
 a39:=Tryz.isAgg208
 z39:=Tryz.sizeOf208
 v39:=Tryz.zeroValue208
 t45:=Tryz.underlying220
 a45:=Tryz.isAgg220
 z45:=Tryz.sizeOf220
 v45:=Tryz.zeroValue220
 t46:=Tryz.underlying221
 a46:=Tryz.isAgg221
 z46:=Tryz.sizeOf221
 v46:=Tryz.zeroValue221
 t50:=Tryz.underlying184
 a50:=Tryz.isAgg184
 z50:=Tryz.sizeOf184
 v50:=Tryz.zeroValue184
 t53:=Tryz.underlying227
 a53:=Tryz.isAgg227
 z53:=Tryz.sizeOf227
 v53:=Tryz.zeroValue227
 t55:=Tryz.underlying229
 a55:=Tryz.isAgg229
 z55:=Tryz.sizeOf229
 v55:=Tryz.zeroValue229
 t66:=Tryz.underlying245
 a66:=Tryz.isAgg245
 z66:=Tryz.sizeOf245
 v66:=Tryz.zeroValue245
 t70:=Tryz.underlying249
 a70:=Tryz.isAgg249
 z70:=Tryz.sizeOf249
 v70:=Tryz.zeroValue249
 t76:=Tryz.underlying257
 a76:=Tryz.isAgg257
 z76:=Tryz.sizeOf257
 v76:=Tryz.zeroValue257
 t77:=Tryz.underlying258
 a77:=Tryz.isAgg258
 z77:=Tryz.sizeOf258
 v77:=Tryz.zeroValue258 }
theorem sortTolerance (xs:List bH) (A:Option Addr) (c:Nat) (F:List Nat) (w:World) (B:Nat) (h:Own w B xs [.slice A xs.length c] F) (hB:B≤w.heap.size) (hl:(xs.length:Int)≤1048576) :
 Calls Tryz.prog 175 #[.slice A xs.length c,.func (.func 161) #[] #[]] w fun e w'=>e = .returned (.tuple #[])∧∃(ys:List bH) (F':List Nat),ys.Perm xs∧ys.Pairwise (fun x y=>decide (Qa (anq y x) < 0) = false)∧Own w' B ys [.slice A xs.length c] F'∧Below B w w' :=
 SortFunc_own (T:=bH) renTolerance laySFTolerance Tryz.isAgg160 Tryz.sizeOf160 (fun x y:bH=>Qa (anq x y)) totTol 161 (enters_of Tryz.func161 U' rfl) (fun _:bH=>True) (fun x y cs ds F G W h h' o1 o2=>compareTolerances_gr x y cs ds F G W h h') xs A c F w B h hB hl (fun _ _=>trivial)
end Go.Proofs.YtkbkikggodlbbaaGreat
namespace Go.Proofs.YtkbkikggodlbbaaGreat
open Go.ChangeShapes Go.WideShapes Go.ChangeAt Go.RowKit
set_option linter.unusedVariables false
set_option linter.unusedSimpArgs false
set_option maxHeartbeats 2000000
set_option maxRecDepth 100000
def aeH (xs:List Need):Bool:=adb uh nD 4 xs
theorem WI (xs:List Need) (A:Option Addr) (n c:Nat) (F:List Nat) (w:World) (h:Sl w xs A c F) (hn:n = xs.length) (hl:(xs.length:Int)≤1048576) (hsm:(∀l∈xs,(l.key.size:Int)≤1048576∧(l.values.length:Int)≤1048576∧∀v∈l.values,(v.size:Int)≤1048576)) :
 Calls Tryz.prog 114 #[.slice A n c] w fun e w'=>e = .returned (.bool (aeH xs))∧Below w.heap.size w w':=by
 subst hn;have Eo:=I' hsm;clear hsm;go_enter Tryz.func114,Tryz.ntmps114;go_wp2_with fail
 go_loopw [7] (fun i wr=>∃k:Nat,k≤xs.length∧i = .int .i64 k∧Hid (∀j,j < k→rowAt uh nD xs j = true)∧Below w.heap.size w wr) (fun i _=>xs.length - (intOf i).toNat)
 case atStart=>exact ⟨0,Nat.zero_le _,rfl,(fun j hj=>by omega),atS⟩
 case round =>
  obtain ⟨k,hk,rfl,hall,hbl⟩:=hrel;by_cases hlt:k < xs.length
  ·obtain rfl | ⟨j,rfl⟩:k = 0∨∃j,k = j+1:=by cases k with | zero=>exact .inl rfl | succ j=>exact .inr ⟨j,rfl⟩
   ·obtain ⟨b,o,ck,Fk,rfl,o9,hbs,hr,hsub,hc⟩:=(Sl.ext (w':=wr) (A:=A) (c:=c) h hbl).get hlt;have hr0:=hr;obtain ⟨jy,ji,Bo,hck,su,hkey,hop,kV⟩:=og hr;subst hck;have q0:wr.cell? ⟨b,o+0 * 3,none⟩ = some (.string xs[0].key):=(by exact hc 0 _ rfl);have q1:wr.cell? ⟨b,o+0 * 3+1,none⟩ = some (.int .i64 xs[0].op):=(by rw [Nat.add_assoc];exact hc 1 _ rfl);have q2:wr.cell? ⟨b,o+0 * 3+2,none⟩ = some (.slice jy xs[0].values.length ji):=(by rw [Nat.add_assoc];exact hc 2 _ rfl);clear hc;simp only [Nat.zero_mul,Nat.add_zero] at q0 q1 q2;obtain ⟨hs1,hs2,hs3⟩:=Eo.out xs[0] (List.getElem_mem ..);cases h1:uh xs[0]
    all_goals
     have hp:=rowAt_zero (ok:=uh) (less:=nD) hlt;rw [h1] at hp;try simp only [Bool.false_and,Bool.and_false,Bool.and_true,Bool.and_self] at hp
     change rowAt uh nD xs _ = _ at hp
     have hK:∀wq,Below wr.heap.size wr wq→Calls Tryz.prog 158 #[.agg #[.string xs[0].key,.int .i64 xs[0].op,.slice jy xs[0].values.length ji]] wq fun e w'=>e = .returned (.bool (uh xs[0]))∧Below wq.heap.size wq w' :=
      fun wq hq=>Rw xs[0] _ _ _ (aJ hr0 hq) hs1 hs2 hs3
     rw [h1] at hK;have NOK:=I' hK;clear hK
     first
      | have HN:=I' (gq hall.out hp)
      | have HF:=I' (wU (most:=4) hlt hp)
     clear h1 hp;go_wp2_with fail
     refine aF _ U' U' (aj _) ?_
     repeat (first
      | (apply aG
         case hw=>rfl
         simp only [Act.put,pz])
      | (apply aH
         case hw=>rfl
         case h =>exact Zabl
         simp only [Act.put,pz]))
     refine aN ?_;intro wn hn;replace hn:=hn.out;go_wp2
     first
      | exact ⟨⟨0+1,O',N',HN.out,ah (ak hbl _) hn⟩,by simp [intOf];omega⟩
      | (go_ret;exact ⟨by unfold aeH;rw [HF.out];rfl,ah (ak hbl _) hn⟩)
   ·obtain ⟨b,o,ck,Fk,rfl,o9,hbs,hr,hsub,hc⟩:=(Sl.ext (w':=wr) (A:=A) (c:=c) h hbl).get hlt;have hr0:=hr;obtain ⟨jy,ji,Bo,hck,su,hkey,hop,kV⟩:=og hr;subst hck;have q0:wr.cell? ⟨b,o+(j+1) * 3,none⟩ = some (.string xs[j+1].key):=(by exact hc 0 _ rfl);have q1:wr.cell? ⟨b,o+(j+1) * 3+1,none⟩ = some (.int .i64 xs[j+1].op):=(by rw [Nat.add_assoc];exact hc 1 _ rfl);have q2:wr.cell? ⟨b,o+(j+1) * 3+2,none⟩ = some (.slice jy xs[j+1].values.length ji):=(by rw [Nat.add_assoc];exact hc 2 _ rfl);clear hc;obtain ⟨b',o',TY,Xw,e,Ht,hbs',hr',zQ,hc'⟩:=Sl.get (Sl.ext (w':=wr) (c:=c) h hbl) (show j < xs.length by omega);have QS:=hr';obtain ⟨qO,qP,KL,jU,abT,vC,hop2,zS⟩:=og hr';subst jU;obtain ⟨rfl,rfl⟩:b' = b∧o' = o:=by simpa using e.symm
    clear e;have p0:wr.cell? ⟨b',o'+j * 3,none⟩ = some (.string xs[j].key):=(by exact hc' 0 _ rfl);have p1:wr.cell? ⟨b',o'+j * 3+1,none⟩ = some (.int .i64 xs[j].op):=(by rw [Nat.add_assoc];exact hc' 1 _ rfl);have p2:wr.cell? ⟨b',o'+j * 3+2,none⟩ = some (.slice qO xs[j].values.length qP):=(by rw [Nat.add_assoc];exact hc' 2 _ rfl);clear hc';have hwj:IntKind.i64.wrap (j:Int) = j:=IntWalk.i64_in _ O';have hjl:j < xs.length:=O';obtain ⟨hp1,hp2,hp3⟩:=Eo.out xs[j] (List.getElem_mem ..);obtain ⟨hs1,hs2,hs3⟩:=Eo.out xs[j+1] (List.getElem_mem ..);cases h1:uh xs[j+1] <;> cases h3:nD xs[j] xs[j+1]
    all_goals
     have hp:=yS (ok:=uh) (less:=nD) hlt;rw [h1,h3] at hp;try simp only [Bool.false_and,Bool.and_false,Bool.and_true,Bool.and_self] at hp
     change rowAt uh nD xs _ = _ at hp
     have hK:∀wq,Below wr.heap.size wr wq→Calls Tryz.prog 158 #[.agg #[.string xs[j+1].key,.int .i64 xs[j+1].op,.slice jy xs[j+1].values.length ji]] wq fun e w'=>e = .returned (.bool (uh xs[j+1]))∧Below wq.heap.size wq w' :=
      fun wq hq=>Rw xs[j+1] _ _ _ (aJ hr0 hq) hs1 hs2 hs3
     rw [h1] at hK;have NOK:=I' hK;clear hK
     first
      | have HN:=I' (gq hall.out hp)
      | have HF:=I' (wU (most:=4) hlt hp)
     have hC:∀wq,Below wr.heap.size wr wq→Calls Tryz.prog 159 #[.agg #[.string xs[j].key,.int .i64 xs[j].op,.slice qO xs[j].values.length qP],.agg #[.string xs[j+1].key,.int .i64 xs[j+1].op,.slice jy xs[j+1].values.length ji]] wq fun e w'=>e = .returned (.bool (nD xs[j] xs[j+1]))∧Below wq.heap.size wq w' :=
      fun wq hq=>ail xs[j] xs[j+1] _ _ _ _ _ (aJ QS hq) (aJ hr0 hq) hp2 hs2
     rw [h3] at hC;have CMP:=I' hC;clear hC;clear h1 hp;go_wp2_with fail
     refine aF _ U' U' (aj _) ?_
     repeat (first
      | (apply aG
         case hw=>rfl
         simp only [Act.put,pz])
      | (apply aH
         case hw=>rfl
         case h =>exact Zabl
         simp only [Act.put,pz]))
     refine aN ?_;intro wn hn;replace hn:=hn.out;go_wp2
     first
      | exact ⟨⟨j+1+1,O',N',HN.out,ah (ak hbl _) hn⟩,by simp [intOf];omega⟩
      | (go_ret;exact ⟨by unfold aeH;rw [HF.out];rfl,ah (ak hbl _) hn⟩)
  ·have hkl:k = xs.length:=O';subst hkl;by_cases hm:(xs.length:Int)≤4
   ·have HF:=I' (Jy hm hall.out);go_wp2;go_ret
    exact ⟨by unfold aeH;rw [HF.out];first | rfl | simp [hm],hbl⟩
   ·have HF:=I' (Jz (ok:=uh) (less:=nD) hm);go_wp2;go_ret
    exact ⟨by unfold aeH;rw [HF.out];first | rfl | simp [hm],hbl⟩
theorem WJ (xs:List Need) (A:Option Addr) (n c:Nat) (F:List Nat) (w:World) (h:Sl w xs A c F) (hn:n = xs.length) (hl:(xs.length:Int)≤1048576) (hsm:(∀l∈xs,(l.key.size:Int)≤1048576∧(l.values.length:Int)≤1048576∧∀v∈l.values,(v.size:Int)≤1048576)) :
 Calls Tryz.prog 101 #[.slice A n c] w fun e w'=>e = .returned (.bool (aeH xs))∧Below w.heap.size w w':=by
 subst hn;have Eo:=I' hsm;clear hsm;by_cases hm:(xs.length:Int)≤4
 ·go_enter Tryz.func101,Tryz.ntmps101;go_wp2_with fail
  go_loopw [3] (fun i wr=>∃k:Nat,k≤xs.length∧i = .int .i64 k∧Hid (∀j,j < k→rowAt uh nD xs j = true)∧Below w.heap.size w wr) (fun i _=>xs.length - (intOf i).toNat)
  case atStart=>exact ⟨0,Nat.zero_le _,rfl,(fun j hj=>by omega),atS⟩
  case round =>
   obtain ⟨k,hk,rfl,hall,hbl⟩:=hrel;by_cases hlt:k < xs.length
   ·obtain rfl | ⟨j,rfl⟩:k = 0∨∃j,k = j+1:=by cases k with | zero=>exact .inl rfl | succ j=>exact .inr ⟨j,rfl⟩
    ·obtain ⟨b,o,ck,Fk,rfl,o9,hbs,hr,hsub,hc⟩:=(Sl.ext (w':=wr) (A:=A) (c:=c) h hbl).get hlt;have hr0:=hr;obtain ⟨jy,ji,Bo,hck,su,hkey,hop,kV⟩:=og hr;subst hck;have q0:wr.cell? ⟨b,o+0 * 3,none⟩ = some (.string xs[0].key):=(by exact hc 0 _ rfl);have q1:wr.cell? ⟨b,o+0 * 3+1,none⟩ = some (.int .i64 xs[0].op):=(by rw [Nat.add_assoc];exact hc 1 _ rfl);have q2:wr.cell? ⟨b,o+0 * 3+2,none⟩ = some (.slice jy xs[0].values.length ji):=(by rw [Nat.add_assoc];exact hc 2 _ rfl);clear hc;simp only [Nat.zero_mul,Nat.add_zero] at q0 q1 q2;obtain ⟨hs1,hs2,hs3⟩:=Eo.out xs[0] (List.getElem_mem ..);cases h1:uh xs[0]
     all_goals
      have hp:=rowAt_zero (ok:=uh) (less:=nD) hlt;rw [h1] at hp;try simp only [Bool.false_and,Bool.and_false,Bool.and_true,Bool.and_self] at hp
      change rowAt uh nD xs _ = _ at hp
      have hK:∀wq,Below wr.heap.size wr wq→Calls Tryz.prog 146 #[.agg #[.string xs[0].key,.int .i64 xs[0].op,.slice jy xs[0].values.length ji]] wq fun e w'=>e = .returned (.bool (uh xs[0]))∧Below wq.heap.size wq w' :=
       fun wq hq=>Rx xs[0] _ _ _ (aJ hr0 hq) hs1 hs2 hs3
      rw [h1] at hK;have NOK:=I' hK;clear hK
      first
       | have HN:=I' (gq hall.out hp)
       | have HF:=I' (wU (most:=4) hlt hp)
      clear h1 hp;go_wp2_with fail
      refine aF _ U' U' (aj _) ?_
      repeat (first
       | (apply aG
          case hw=>rfl
          simp only [Act.put,pz])
       | (apply aH
          case hw=>rfl
          case h =>exact Zabl
          simp only [Act.put,pz]))
      refine aN ?_;intro wn hn;replace hn:=hn.out;go_wp2
      first
       | exact ⟨⟨0+1,O',N',HN.out,ah hbl hn⟩,by simp [intOf];omega⟩
       | (go_ret;exact ⟨by unfold aeH;rw [HF.out];rfl,ah hbl hn⟩)
    ·obtain ⟨b,o,ck,Fk,rfl,o9,hbs,hr,hsub,hc⟩:=(Sl.ext (w':=wr) (A:=A) (c:=c) h hbl).get hlt;have hr0:=hr;obtain ⟨jy,ji,Bo,hck,su,hkey,hop,kV⟩:=og hr;subst hck;have q0:wr.cell? ⟨b,o+(j+1) * 3,none⟩ = some (.string xs[j+1].key):=(by exact hc 0 _ rfl);have q1:wr.cell? ⟨b,o+(j+1) * 3+1,none⟩ = some (.int .i64 xs[j+1].op):=(by rw [Nat.add_assoc];exact hc 1 _ rfl);have q2:wr.cell? ⟨b,o+(j+1) * 3+2,none⟩ = some (.slice jy xs[j+1].values.length ji):=(by rw [Nat.add_assoc];exact hc 2 _ rfl);clear hc;obtain ⟨b',o',TY,Xw,e,Ht,hbs',hr',zQ,hc'⟩:=Sl.get (Sl.ext (w':=wr) (c:=c) h hbl) (show j < xs.length by omega);have QS:=hr';obtain ⟨qO,qP,KL,jU,abT,vC,hop2,zS⟩:=og hr';subst jU;obtain ⟨rfl,rfl⟩:b' = b∧o' = o:=by simpa using e.symm
     clear e;have p0:wr.cell? ⟨b',o'+j * 3,none⟩ = some (.string xs[j].key):=(by exact hc' 0 _ rfl);have p1:wr.cell? ⟨b',o'+j * 3+1,none⟩ = some (.int .i64 xs[j].op):=(by rw [Nat.add_assoc];exact hc' 1 _ rfl);have p2:wr.cell? ⟨b',o'+j * 3+2,none⟩ = some (.slice qO xs[j].values.length qP):=(by rw [Nat.add_assoc];exact hc' 2 _ rfl);clear hc';have hwj:IntKind.i64.wrap (j:Int) = j:=IntWalk.i64_in _ O';have hjl:j < xs.length:=O';obtain ⟨hp1,hp2,hp3⟩:=Eo.out xs[j] (List.getElem_mem ..);obtain ⟨hs1,hs2,hs3⟩:=Eo.out xs[j+1] (List.getElem_mem ..);cases h1:uh xs[j+1] <;> cases h3:nD xs[j] xs[j+1]
     all_goals
      have hp:=yS (ok:=uh) (less:=nD) hlt;rw [h1,h3] at hp;try simp only [Bool.false_and,Bool.and_false,Bool.and_true,Bool.and_self] at hp
      change rowAt uh nD xs _ = _ at hp
      have hK:∀wq,Below wr.heap.size wr wq→Calls Tryz.prog 146 #[.agg #[.string xs[j+1].key,.int .i64 xs[j+1].op,.slice jy xs[j+1].values.length ji]] wq fun e w'=>e = .returned (.bool (uh xs[j+1]))∧Below wq.heap.size wq w' :=
       fun wq hq=>Rx xs[j+1] _ _ _ (aJ hr0 hq) hs1 hs2 hs3
      rw [h1] at hK;have NOK:=I' hK;clear hK
      first
       | have HN:=I' (gq hall.out hp)
       | have HF:=I' (wU (most:=4) hlt hp)
      have hC:∀wq,Below wr.heap.size wr wq→Calls Tryz.prog 140 #[.agg #[.string xs[j].key,.int .i64 xs[j].op,.slice qO xs[j].values.length qP],.agg #[.string xs[j+1].key,.int .i64 xs[j+1].op,.slice jy xs[j+1].values.length ji]] wq fun e w'=>e = .returned (.bool (nD xs[j] xs[j+1]))∧Below wq.heap.size wq w' :=
       fun wq hq=>TN xs[j] xs[j+1] _ _ _ _ _ (aJ QS hq) (aJ hr0 hq) hp2 hs2
      rw [h3] at hC;have CMP:=I' hC;clear hC;clear h1 hp;go_wp2_with fail
      refine aF _ U' U' (aj _) ?_
      repeat (first
       | (apply aG
          case hw=>rfl
          simp only [Act.put,pz])
       | (apply aH
          case hw=>rfl
          case h =>exact Zabl
          simp only [Act.put,pz]))
      refine aN ?_;intro wn hn;replace hn:=hn.out;go_wp2
      first
       | exact ⟨⟨j+1+1,O',N',HN.out,ah hbl hn⟩,by simp [intOf];omega⟩
       | (go_ret;exact ⟨by unfold aeH;rw [HF.out];rfl,ah hbl hn⟩)
   ·have hkl:k = xs.length:=O';subst hkl;have HF:=I' (Jy hm hall.out);go_wp2;go_ret
    exact ⟨by unfold aeH;rw [HF.out];rfl,hbl⟩
 ·have HF:=I' (Jz (ok:=uh) (less:=nD) hm);go_enter Tryz.func101,Tryz.ntmps101;go_wp2;go_ret
  exact ⟨by unfold aeH;rw [HF.out];rfl,atS⟩
end Go.Proofs.YtkbkikggodlbbaaGreat
