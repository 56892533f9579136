/- SortLabels in plain Lean. No condition. -/
import Derived.Test.YtkjeocdobidadaaGreatCpP
import Derived.Test.YtkjeocdobidadaaGreatLabelsOk
import Derived.Test.YtkjeocdobidadaaGreatStabM
import Derived.Test.YtkjeocdobidadaaGreatInsP
import Derived.Test.YtkjeocdobidadaaGreatTaintsOk
import Derived.Test.YtkjeocdobidadaaGreatSelOk
import Derived.Test.YtkjeocdobidadaaGreatCmp2
import Derived.Test.YtkjeocdobidadaaGreatBoundU
import Derived.Test.YtkjeocdobidadaaGreatRegionIx
import Derived.Test.YtkjeocdobidadaaGreatRegionCut
import Derived.Laws.Cover1
namespace Go.Proofs.YtkjeocdobidadaaGreat
open Go.ChangeShapes Go.WideShapes Go.ChangeAt Go.RowKit
set_option linter.unusedVariables false
set_option linter.unusedSimpArgs false
set_option maxHeartbeats 8000000
set_option maxRecDepth 100000
def labCv (x y:Label):Int:=Lib.compareBytes x.key.data.toList y.key.data.toList
def sortLabelsR (xs:List Label):List Label × Bool:=if sD (sortB (kS labCv) [] xs) = true then (sortB (kS labCv) [] xs,true) else (xs,false)
theorem sortLabelsR_yes {xs:List Label} (h:sD (sortB (kS labCv) [] xs) = true):sortLabelsR xs = (sortB (kS labCv) [] xs,true):=if_pos h
theorem sortLabelsR_no {xs:List Label} (h:sD (sortB (kS labCv) [] xs) = false):sortLabelsR xs = (xs,false):=if_neg (by rw [h];simp)
theorem sortL_mem {lt:Label→Label→Bool} {z:Label} : ∀(ys acc:List Label),z∈sortB lt acc ys→z∈acc∨z∈ys
 | [],acc,h=>.inl h
 | y :: ys,acc,h=>by
   rw [sortB] at h;rcases sortL_mem ys _ h with h | h
   ·exact Zac3
   ·exact .inr (List.mem_cons_of_mem _ h)
theorem sortLab_mem {xs:List Label} {z:Label} (h:z∈sortB (kS labCv) [] xs):z∈xs:=by
 rcases sortL_mem xs [] h with h | h
 ·cases h
 ·exact h
theorem sortLab_len (xs:List Label):(sortB (kS labCv) [] xs).length = xs.length:=by rw [rD];simp
theorem insB_sum {lt:Label→Label→Bool} (f:Label→Nat) (y:Label):∀r:List Label,((OM lt y r).map f).sum = f y+(r.map f).sum
 | []=>by simp [OM]
 | x :: r=>by
   have:=insB_sum (lt:=lt) f y r;unfold OM;split <;> simp only [List.map_cons,List.sum_cons] <;> omega
theorem sortB_sum {lt:Label→Label→Bool} (f:Label→Nat):∀xs acc:List Label,((sortB lt acc xs).map f).sum = (acc.map f).sum+(xs.map f).sum
 | [],_=>by simp [sortB]
 | x :: xs,acc=>by
   have h1:=sortB_sum (lt:=lt) f xs (OM lt x acc);have h2:=insB_sum (lt:=lt) f x acc;rw [sortB,h1,h2];exact Zad2
theorem sortLabelsR_wt (xs:List Label):kL Label.wt (sortLabelsR xs).1 = kL Label.wt xs:=by
 have h:=sortB_sum (lt:=kS labCv) Label.wt xs [];have hl:=sortLab_len xs;unfold sortLabelsR kL;split
 ·dsimp only;simp only [List.map_nil,List.sum_nil] at h;omega
 ·rfl
def sortTolsR (xs:List bH):List bH × Bool:=if xs.length≤40∧Ya (uniqL vJ [] xs) = true then (uniqL vJ [] xs,true) else (xs,false)
theorem sortTolsR_long {xs:List bH} (h:¬xs.length≤40):sortTolsR xs = (xs,false):=if_neg fun hh=>h hh.1
theorem sortTolsR_yes {xs:List bH} (h:xs.length≤40) (h2:Ya (uniqL vJ [] xs) = true):sortTolsR xs = (uniqL vJ [] xs,true):=if_pos ⟨h,h2⟩
theorem sortTolsR_no {xs:List bH} (h2:Ya (uniqL vJ [] xs) = false):sortTolsR xs = (xs,false):=if_neg fun hh=>by rw [h2] at hh;cases hh.2
theorem uniqTolerance_mem {xs:List bH} {z:bH} (h:z∈uniqL vJ [] xs):z∈xs:=by
 rcases (uniqL_mem totTol z xs []).1 h with h | h
 ·cases h
 ·exact h
theorem sortTolsR_wt (xs:List bH):kL bH.wt (sortTolsR xs).1≤kL bH.wt xs:=by
 have h:=uniqL_sum bH.wt vJ xs [];have hl:=uniqL_len vJ xs [];unfold sortTolsR kL;split
 ·dsimp only;simp only [List.map_nil,List.sum_nil,List.length_nil] at h hl;omega
 ·exact Nat.le_refl _
def sortTaintsR (xs:List iU):List iU × Bool:=if xs.length≤40∧La (uniqL qo [] xs) = true then (uniqL qo [] xs,true) else (xs,false)
theorem sortTaintsR_long {xs:List iU} (h:¬xs.length≤40):sortTaintsR xs = (xs,false):=if_neg fun hh=>h hh.1
theorem sortTaintsR_yes {xs:List iU} (h:xs.length≤40) (h2:La (uniqL qo [] xs) = true):sortTaintsR xs = (uniqL qo [] xs,true):=if_pos ⟨h,h2⟩
theorem sortTaintsR_no {xs:List iU} (h2:La (uniqL qo [] xs) = false):sortTaintsR xs = (xs,false):=if_neg fun hh=>by rw [h2] at hh;cases hh.2
theorem uniqTaint_mem {xs:List iU} {z:iU} (h:z∈uniqL qo [] xs):z∈xs:=by
 rcases (uniqL_mem totTaint z xs []).1 h with h | h
 ·cases h
 ·exact h
theorem sortTaintsR_wt (xs:List iU):kL iU.wt (sortTaintsR xs).1≤kL iU.wt xs:=by
 have h:=uniqL_sum iU.wt qo xs [];have hl:=uniqL_len qo xs [];unfold sortTaintsR kL;split
 ·dsimp only;simp only [List.map_nil,List.sum_nil,List.length_nil] at h hl;omega
 ·exact Nat.le_refl _
def normN (x:Need):Need:=⟨x.key,x.op,valsR x.values⟩
def smallV (xs:List Need):Bool:=xs.all fun x=>decide (x.values.length≤40)
def needsU (xs:List Need):List Need:=uniqL nD [] (xs.map normN)
def sortNeedsR (xs:List Need):List Need × Bool:=if xs.length≤40∧smallV xs = true∧aeH (needsU xs) = true then (needsU xs,true) else (xs,false)
theorem sortNeedsR_long {xs:List Need} (h:¬xs.length≤40):sortNeedsR xs = (xs,false):=if_neg fun hh=>h hh.1
theorem sortNeedsR_wide {xs:List Need} (h:smallV xs = false):sortNeedsR xs = (xs,false):=if_neg fun hh=>by rw [h] at hh;cases hh.2.1
theorem sortNeedsR_yes {xs:List Need} (h:xs.length≤40) (h1:smallV xs = true) (h2:aeH (needsU xs) = true):sortNeedsR xs = (needsU xs,true):=if_pos ⟨h,h1,h2⟩
theorem sortNeedsR_no {xs:List Need} (h2:aeH (needsU xs) = false):sortNeedsR xs = (xs,false):=if_neg fun hh=>by rw [h2] at hh;cases hh.2.2
theorem needsU_mem {xs:List Need} {z:Need} (h:z∈needsU xs):∃x∈xs,z = normN x:=by
 rcases (uniqL_mem (lt:=nD) totNeed z (xs.map normN) []).1 h with h | h
 ·cases h
 ·obtain ⟨x,hx,rfl⟩:=List.mem_map.1 h;exact ⟨x,hx,rfl⟩
theorem needsU_len (xs:List Need):(needsU xs).length≤xs.length:=by have:=uniqL_len nD (xs.map normN) [];unfold needsU;simpa using this
theorem normN_wt (x:Need):(normN x).wt≤x.wt:=by have:=valsR_wt x.values;unfold normN Need.wt wtS;dsimp only;omega
theorem map_sum_le {α:Type} {f:α→Nat} {g:α→α} (h:∀x,f (g x)≤f x):∀xs:List α,((xs.map g).map f).sum≤(xs.map f).sum
 | []=>Nat.le_refl _
 | x :: xs=>by have h1:=h x;have h2:=map_sum_le h xs;simp only [List.map_cons,List.sum_cons];omega
theorem sortNeedsR_wt (xs:List Need):kL Need.wt (sortNeedsR xs).1≤kL Need.wt xs:=by
 have h:=uniqL_sum Need.wt nD (xs.map normN) [];have hl:=uniqL_len nD (xs.map normN) [];have hm:=map_sum_le normN_wt xs;unfold sortNeedsR kL;split
 ·dsimp only;simp only [List.map_nil,List.sum_nil,List.length_nil,List.length_map] at h hl;unfold needsU;omega
 ·exact Nat.le_refl _
theorem smallV_at {xs:List Need} (h:smallV xs = true) {x:Need} (hx:x∈xs):x.values.length≤40:=by
 have:=List.all_eq_true.1 h x hx;simpa using this
theorem smallV_not {xs:List Need} {x:Need} (hx:x∈xs) (h:¬x.values.length≤40):smallV xs = false:=by
 cases hh:smallV xs with
 | false=>rfl
 | true=>exact absurd (smallV_at hh hx) h
theorem smallV_all {xs:List Need} (h:∀j (hj:j < xs.length),xs[j].values.length≤40):smallV xs = true:=by
 refine List.all_eq_true.2 fun x hx=>?_;obtain ⟨j,hj,rfl⟩:=List.getElem_of_mem hx;simpa using h j hj
theorem normN_sm {x:Need} (h:x.wt≤1048576):((normN x).key.size:Int)≤1048576∧((normN x).values.length:Int)≤1048576∧(∀v∈(normN x).values,(v.size:Int)≤1048576):=by
 have h2:Need.wt x = x.key.size+kL ByteArray.size x.values:=rfl;have h3:=gJ ByteArray.size x.values;have h4:=valsR_len x.values;refine ⟨?_,?_,fun v hv=>?_⟩
 ·show (x.key.size:Int)≤_;omega
 ·show ((valsR x.values).length:Int)≤_;omega
 ·have:=Bq (f:=ByteArray.size) (valsR_mem hv);omega
def GU (x:nI):Bool:=Qs x.name&&sD x.labels&&aeH x.needs&&Ya x.tolerances&&(decide (0≤x.cpu)&&decide (0≤x.mem))&&(decide (0≤x.rank)&&decide (x.rank≤1000))
theorem wH (x:nI) (cs:List Value) (F:List Nat) (w:World) (h:rd w x cs F) (hw:(x.wt:Int)≤1048576) :
 Calls Tryz.prog 64 #[.agg cs.toArray] w fun e w'=>e = .returned (.bool (GU x))∧Below w.heap.size w w':=by
 have hwx:x.wt = x.name.size+kL Label.wt x.labels+kL Need.wt x.needs+kL bH.wt x.tolerances:=rfl;obtain ⟨hll,hls⟩:=sW (xs:=x.labels) O';obtain ⟨hnl,VU⟩:=Aa (xs:=x.needs) O';obtain ⟨htl,hts⟩:=FQ (xs:=x.tolerances) O';have hns:(x.name.size:Int)≤1048576:=by omega
 have Zb:=I' hls;have HNS:=I' VU;have Ux:=I' hts;clear hls hts VU;have hr:=h;obtain ⟨gu,gy,jw,oh,nT,wG,fA,fB,jY,hck,hF,hname,dO,vg,hmem,BJ,mX,eG⟩:=dL hr;subst hck;clear hr hF;go_enter Tryz.func64,Tryz.ntmps64
 go_wp2_with (first
  | (go_at_call 108;refine (Ro x.name _ hns).mono ?_;rintro e w2 ⟨rfl,hb2⟩;obtain ⟨hc2,hf2⟩:=ay hb2;have hz2:w.heap.size < w2.heap.size:=(sq hb2.size))
  | (go_at_call 109;refine (Jv x.labels _ _ _ _ _ (dO.ext atS) rfl hll Zb.out).mono ?_;rintro e w3 ⟨rfl,hb3⟩;obtain ⟨hc3,hf3⟩:=ay hb3;have hz3:w.heap.size < w3.heap.size:=(sq hb3.size))
  | (go_at_call 111;refine (WI x.needs _ _ _ _ _ (mX.ext atS) rfl hnl HNS.out).mono ?_;rintro e w4 ⟨rfl,hb4⟩;obtain ⟨hc4,hf4⟩:=ay hb4;have Wy:w.heap.size < w4.heap.size:=(sq hb4.size))
  | (go_at_call 112;refine (RH x.tolerances _ _ _ _ _ (eG.ext atS) rfl htl Ux.out).mono ?_;rintro e w5 ⟨rfl,hb5⟩;obtain ⟨hc5,hf5⟩:=ay hb5;have Es:w.heap.size < w5.heap.size:=(sq hb5.size))
  | go_in)
 all_goals first
  | (go_ret;refine ⟨?_,atS⟩;refine congrArg (fun b=>Ending.returned (Value.bool b)) ?_;show (_:Bool) = _;(try clear hc2 hf2);(try clear hc3 hf3);(try clear hc4 hf4);(try clear hc5 hf5);unfold GU;first | (simp [*];done) | (simp [*];omega) | (simp_all;done) | (simp_all;omega))
  | skip
theorem yT (x:nI) (cs:List Value) (F:List Nat) (w:World) (h:rd w x cs F) (hw:(x.wt:Int)≤1048576) :
 Calls Tryz.prog 76 #[.agg cs.toArray] w fun e w'=>e = .returned (.bool (GU x))∧Below w.heap.size w w':=by
 have hwx:x.wt = x.name.size+kL Label.wt x.labels+kL Need.wt x.needs+kL bH.wt x.tolerances:=rfl;obtain ⟨hll,hls⟩:=sW (xs:=x.labels) O';obtain ⟨hnl,VU⟩:=Aa (xs:=x.needs) O';obtain ⟨htl,hts⟩:=FQ (xs:=x.tolerances) O';have hns:(x.name.size:Int)≤1048576:=by omega
 have Zb:=I' hls;have HNS:=I' VU;have Ux:=I' hts;clear hls hts VU;have hr:=h;obtain ⟨gu,gy,jw,oh,nT,wG,fA,fB,jY,hck,hF,hname,dO,vg,hmem,BJ,mX,eG⟩:=dL hr;subst hck;clear hr hF;go_enter Tryz.func76,Tryz.ntmps76
 go_wp2_with (first
  | (go_at_call 129;refine (Rq x.name _ hns).mono ?_;rintro e w2 ⟨rfl,hb2⟩;obtain ⟨hc2,hf2⟩:=ay hb2;have hz2:w.heap.size < w2.heap.size:=(sq hb2.size))
  | (go_at_call 123;refine (Jw x.labels _ _ _ _ _ (dO.ext atS) rfl hll Zb.out).mono ?_;rintro e w3 ⟨rfl,hb3⟩;obtain ⟨hc3,hf3⟩:=ay hb3;have hz3:w.heap.size < w3.heap.size:=(sq hb3.size))
  | (go_at_call 126;refine (WJ x.needs _ _ _ _ _ (mX.ext atS) rfl hnl HNS.out).mono ?_;rintro e w4 ⟨rfl,hb4⟩;obtain ⟨hc4,hf4⟩:=ay hb4;have Wy:w.heap.size < w4.heap.size:=(sq hb4.size))
  | (go_at_call 128;refine (RI x.tolerances _ _ _ _ _ (eG.ext atS) rfl htl Ux.out).mono ?_;rintro e w5 ⟨rfl,hb5⟩;obtain ⟨hc5,hf5⟩:=ay hb5;have Es:w.heap.size < w5.heap.size:=(sq hb5.size))
  | go_in)
 all_goals first
  | (go_ret;refine ⟨?_,atS⟩;refine congrArg (fun b=>Ending.returned (Value.bool b)) ?_;show (_:Bool) = _;(try clear hc2 hf2);(try clear hc3 hf3);(try clear hc4 hf4);(try clear hc5 hf5);unfold GU;first | (simp [*];done) | (simp [*];omega) | (simp_all;done) | (simp_all;omega))
  | skip
theorem infoSLabel:(Tryz.prog.info? 107).map (fun i=>(i.zero,i.size,i.bytes)) = some (some (.agg #[.string ⟨#[]⟩,.string ⟨#[]⟩]),2,32):=by kernel_rfl
theorem elSLabel:DL Tryz.prog 35 107 (.agg #[.string ⟨#[]⟩,.string ⟨#[]⟩]) 2 32:=⟨Tryz.underlying35,infoSLabel,rfl,O'⟩
theorem rdLabel_flat {w:World} {xs:List Label} (h:∀x∈xs,rd w x (lrow x) []) {x:Label} (hx:x∈xs) (w':World):rd w' x (lrow x) []:=by
 obtain ⟨h0,h1,h2,h3⟩:=vO (h x hx);exact alH w' x h2 h3
theorem lab_le {y z:Label} (h:kS labCv y z = false):(Op.bytesLess z.key.toList y.key.toList || z.key.toList == y.key.toList) = true∧(Op.bytesLess y.key.toList z.key.toList) = false:=by
 have h1:¬labCv y z < 0:=by simpa [kS] using h
 have h2:labCv z y = - labCv y z:=cpBytes.anti _ _;have hh:Op.bytesLess y.key.toList z.key.toList = false:=by
  cases hb:Op.bytesLess y.key.toList z.key.toList with
  | false=>rfl
  | true =>rw [← Wx,ByteArray.toList_eq,ByteArray.toList_eq] at hb;exact absurd hb h1
 refine ⟨?_,hh⟩;by_cases h3:labCv y z = 0
 ·have:=(J5 _ _).1 h3;rw [ByteArray.toList_eq,ByteArray.toList_eq,this];simp
 ·have h4:labCv z y < 0:=by omega
  have:=(Wx _ _).1 h4;rw [ByteArray.toList_eq,ByteArray.toList_eq,this];rfl
theorem lab_gt {y z:Label} (h:kS labCv y z = true):(Op.bytesLess z.key.toList y.key.toList || z.key.toList == y.key.toList) = false:=by
 have h1:labCv y z < 0:=by simpa [kS] using h
 have h2:labCv z y = - labCv y z:=cpBytes.anti _ _;rw [Bool.or_eq_false_iff];constructor
 ·cases hb:Op.bytesLess z.key.toList y.key.toList with
  | false=>rfl
  | true =>rw [← Wx,ByteArray.toList_eq,ByteArray.toList_eq] at hb;have:labCv z y < 0:=hb;omega
 ·cases hb:(z.key.toList == y.key.toList) with
  | false=>rfl
  | true =>rw [beq_iff_eq,ByteArray.toList_eq,ByteArray.toList_eq] at hb;have:labCv z y = 0:=(J5 _ _).2 hb;omega
theorem labels_short {xs:List Label} (h:sD xs = true):xs.length≤6:=by
 unfold sD adb at h;exact Zad1
theorem SortLabels_spec (xs:List Label) (A:Option Addr) (c:Nat) (F:List Nat) (w:World) (h:Sl w xs A c F) (hl:(xs.length:Int)≤1048576) (hsm:∀l∈xs,(l.key.size:Int)≤1048576∧(l.value.size:Int)≤1048576) :
 Calls Tryz.prog 73 #[.slice A xs.length c] w fun e w'=>∃A' c' G,e = .returned (.tuple #[.slice A' (sortLabelsR xs).1.length c',.bool (sortLabelsR xs).2])∧Own w' w.heap.size (sortLabelsR xs).1 [.slice A' (sortLabelsR xs).1.length c'] G∧Below w.heap.size w w':=by
 have Eo:=I' hsm;clear hsm
 have HRD:=I' (show ∀x∈xs,rd w x (lrow x) [] from fun x hx=>by
  obtain ⟨k,hk,rfl⟩:=List.getElem_of_mem hx;obtain ⟨b,o,ck,Fk,_,_,_,hr,_,_⟩:=h.get hk;have h2:=vO hr;rw [h2.1,h2.2.1] at hr
  exact hr)
 go_enter Tryz.func73,Tryz.ntmps73
 go_wp2_with (
  at_builtin
  go_must (refine rW elSLabel J' J' _ _ J' (w.alloc (.cells #[] 107)) w.heap.size _ 0 [] (D9 w 107 2 w.heap.size rfl) J' xs A c F (h.ext (ak (aj _) _)) J' O' O' S' ?_)
  intro v2 w2 ds G hrc hsub hown hg hat;go_must (obtain ⟨A2,c2,hv2⟩:=mY hown)
  go_must (subst hv2)
  go_must (have hb2:Below w.heap.size w w2:=lS (World.ownsRow_made (e:=107) (size:=2) w #[] 0 (Nat.le_refl _) (Nat.zero_le _) S') hg (ak (aj _) _) S'))
 all_goals
  simp only [Nat.zero_add,List.nil_append] at hown;try simp only [Nat.zero_add]
 ·have h40:¬xs.length≤6:=by omega
  have HR:=I' (sortLabelsR_no (by cases hh:sD (sortB (kS labCv) [] xs) with
  | false=>rfl
  | true=>have:=labels_short hh;rw [sortLab_len] at this;omega))
  have hrc2:jo w2 xs ds G:=hrc.frame (fun b hb=>hg.block b (hrc.lt b hb) (fun e=>by have h1:=h.lt b (hsub b hb);simp [Value.ownBlock] at e;omega)) hg.size;obtain ⟨A3,c3,G3,hv3,hO3⟩:=Own.of_flat (fun {w x cs F} hh=>(vO hh).2.1) hown hrc2;exact Zacm
 ·have h40:xs.length≤6:=by omega
  have HRC:=I' (show jo w2 xs ds G from hrc.frame (fun b hb=>hg.block b (hrc.lt b hb) (fun e=>by have h1:=h.lt b (hsub b hb);simp [Value.ownBlock] at e;omega)) hg.size);have HOWN:=I' hown;have HB2:=I' hb2;have hs2:Sl w2 xs A c F:=h.ext hb2;clear hown hrc hg hat hsub hb2;go_wp2_with fail
  go_loopw [5,6] (fun v i wr=>∃k N g cap:Nat,k≤xs.length∧N≤k∧i = .int .i64 (k:Int)∧v = .slice (some ⟨g,0,none⟩) N cap∧Hid ((sortB (kS labCv) [] (xs.take k)).length = N)∧wr.ownsRow w2.heap.size 107 2 (.slice (some ⟨g,0,none⟩) N cap) N ((sortB (kS labCv) [] (xs.take k)).flatMap lrow)∧Below w2.heap.size w2 wr) (fun _ i _=>xs.length - (intOf i).toNat)
  case atStart=>exact ⟨0,0,w2.heap.size,0,O',Nat.le_refl _,rfl,rfl,I' rfl,D9 w2 107 2 w2.heap.size rfl,ak (aj _) _⟩
  case round =>
   obtain ⟨k,N,g,cap,hk,hNk,rfl,rfl,HSL,hrow,hbl⟩:=hrel;by_cases hlt:k < xs.length
   ·obtain ⟨wo,hwo⟩:∃wo,wo = wr:=⟨_,rfl⟩;subst hwo;obtain ⟨b,o,ck,Fk,hA,hbG,hbs,hrdk,_,hcells⟩:=Sl.get hs2 hlt;subst hA;have hym:xs[k]∈xs:=List.getElem_mem ..;have hnx:sortB (kS labCv) [] (xs.take (k+1)) = OM (kS labCv) xs[k] (sortB (kS labCv) [] (xs.take k)):=(by rw [List.take_succ_eq_append_getElem hlt,V3]);obtain ⟨y,hy⟩:∃y,xs[k] = y:=⟨_,rfl⟩;rw [hy] at hrdk hym hnx;obtain ⟨hck,_⟩:=vO hrdk;subst hck;have k0:wo.cell? ⟨b,o+k * 2,none⟩ = some (.string y.key):=(hbl.cell (p:=⟨b,o+k * 2,none⟩) hbs).trans (by have:=hcells 0 _ rfl;rwa [show o+(k * Dat.size Label+0) = o+k * 2 by show o+(k * 2+0) = _;omega] at this);have k1:wo.cell? ⟨b,o+k * 2+1,none⟩ = some (.string y.value):=(hbl.cell (p:=⟨b,o+k * 2+1,none⟩) hbs).trans (by have:=hcells 1 _ rfl;rwa [show o+(k * Dat.size Label+1) = o+k * 2+1 by show o+(k * 2+1) = _;omega] at this);have Jf:=I' hnx;have HYM:=I' hym;clear hcells hy hnx hym;have HSM2:=I' (show ∀z∈sortB (kS labCv) [] (xs.take k),z∈xs from fun z hz=>List.mem_of_mem_take (sortLab_mem hz));generalize sortB (kS labCv) [] (xs.take k) = SS at *;obtain ⟨hg1,hg2,hg3,hgc⟩:=IE hrow;have hzo:w2.heap.size≤wo.heap.size:=hbl.size;have hbo:b < wo.heap.size:=O';have HGC:=I' hgc;have HROW:=I' hrow;have HBO:=I' hbl;clear hgc hrow hbl;go_wp2_with fail
    go_loopw [7] (fun j wr=>∃(s1 s2:List Label) (jj:Nat),Hid (SS = s1++s2)∧j = .int .i64 (jj:Int)∧Hid (s1.length = jj)∧Hid (∀z∈s1,kS labCv y z = false)∧Below wo.heap.size wo wr) (fun j _=>N - (intOf j).toNat)
    case atStart=>exact ⟨[],SS,0,I' rfl,rfl,I' rfl,I' (fun z hz=>by cases hz),aj _⟩
    case round =>
     obtain ⟨s1,s2,jj,HE,rfl,HJ,HN,hbr⟩:=hrel;have mc:∀bq oq u,wo.cell? ⟨bq,oq,none⟩ = some u→bq < wo.heap.size→wr.cell? ⟨bq,oq,none⟩ = some u:=fun bq oq u h1 h2=>(hbr.cell (p:=⟨bq,oq,none⟩) h2).trans h1;replace k0:=mc _ _ _ k0 hbo;replace k1:=mc _ _ _ k1 hbo;have MC:=I' mc;have hzr:wo.heap.size≤wr.heap.size:=hbr.size;have hbor:b < wr.heap.size:=O';have hgr:g < wr.heap.size:=O';clear mc;cases s2 with
     | nil =>
       have hjk:jj = N:=(by have e1:=HE.out;have e2:=HSL.out;have e3:=HJ.out;rw [e1,List.append_nil] at e2;omega);have hjk1:N≤jj:=O';have hjd:decide ((jj:Int) < (N:Int)) = false:=(by simp;omega);have hjd2:decide (jj < N) = false:=(by simp;omega);clear hjk;have HI:=I' (show OM (kS labCv) y (SS) = s1++y :: [] by rw [HE.out];exact PY s1 [] HN.out (.inl rfl));go_wp2_with fail
       refine aF wr U' U' (aj _) ?_
       repeat (first
        | (apply aG
           case hw=>rfl
           simp only [Act.put,pz])
        | (apply aH
           case hw=>rfl
           case h =>exact Zaak
           simp only [Act.put,pz]))
       refine aN ?_;intro wn hn;replace hn:=hn.out;have hbn:Below wo.heap.size wo wn:=ah hbr hn;have HBN:=I' (show Below w2.heap.size w2 wn from ah HBO.out hbn);have RJ:=mG HROW.out hbn;obtain ⟨_,hgn,apy,V4⟩:=IE RJ
       have HNC:=I' (show ∀q u,(s1.flatMap lrow)[q]? = some u→wn.cell? ((⟨g,0,none⟩:Addr).add q) = some u from fun q u hu=>by
        rw [Addr.add_lit,Nat.zero_add];refine V4 q u ?_
        rw [HE.out,List.flatMap_append,List.getElem?_append_left (List.getElem?_eq_some_iff.1 hu).1];exact hu)
       have Gn:=I' (show ∀q u,((([]:List Label)).flatMap lrow)[q]? = some u→wn.cell? ⟨g,jj * 2+q,none⟩ = some u from fun q u hu=>by
        refine V4 (jj * 2+q) u ?_
        rw [HE.out,List.flatMap_append,List.getElem?_append_right (by rw [rowsLen (row:=lrow) (S:=2) (fun _=>rfl),HJ.out];omega),rowsLen (row:=lrow) (S:=2) (fun _=>rfl),HJ.out,Nat.add_sub_cancel_left];exact hu)
       have hl2:jj+(([]:List Label)).length = N:=(by have e1:=congrArg List.length HE.out;have e2:=HSL.out;have e3:=HJ.out;rw [List.length_append] at e1;omega);have hjk2:jj≤N:=O';have hjc:jj≤cap:=O';replace k0:=(hn.cell (p:=⟨b,o+k * 2,none⟩) awO).trans k0;replace k1:=(hn.cell (p:=⟨b,o+k * 2+1,none⟩) awO).trans k1;have hbn2:b < wn.heap.size:=(by have:=hn.size;omega);have HL2:=I' hl2;have HBW:=I' hbn;clear RJ V4 hl2 hbn;go_wp2_with fail
       refine zU wn 12 U' U' (aj _) ?_;refine YU (fun a0 a' w'=>∃(g9 p9:Nat) (v0_ v1_ v2_ v3_ v4_ v5_ v6_ v7_ v8_ v9_:Value),a' = (Act.put (Act.put (Act.put (Act.put (Act.put (Act.put (Act.put (Act.put (Act.put (Act.put (Act.put (Act.put a0 (some 42) (v0_)) (some 43) (v1_)) (some 44) (v2_)) (some 45) (v3_)) (some 46) (v4_)) (some 47) (v5_)) (some 48) (v6_)) (some 49) (v7_)) (some 50) (v8_)) (some 51) (v9_)) (some 52) (.slice (some ⟨g9,0,none⟩) (jj+1) p9)) (some 8) (.slice (some ⟨g9,0,none⟩) (jj+1) p9))∧Below wn.heap.size wn w'∧World.ownsRow w' wn.heap.size 107 2 (.slice (some ⟨g9,0,none⟩) (jj+1) p9) (jj+1) ((s1.flatMap lrow)++[.string y.key,.string y.value])) ?_ ?_;rotate_left
       ·exact Zad8
       intro a' w7 hE7;obtain ⟨g9,p9,v0_,v1_,v2_,v3_,v4_,v5_,v6_,v7_,v8_,v9_,rfl,hb7,nK⟩:=hE7;try simp only [Act.put,pz]
       have hsrc:∃A0:Addr,(if cap = jj then some (⟨g,0,none⟩:Addr) else some ⟨g,jj * 2,none⟩) = some A0∧Hid (A0.block = g∧∀q u,((([]:List Label)).flatMap lrow)[q]? = some u→w7.cell? (A0.add q) = some u):=by
        by_cases hc:cap = jj
        ·exact Zac6
        ·exact ⟨⟨g,jj * 2,none⟩,by simp [hc],rfl,fun q u hu=>by simp at hu⟩
       obtain ⟨A0,hA0,asg⟩:=hsrc;have hkl:N - jj = (([]:List Label)).length:=(by have:=HL2.out;omega);have HKL:=I' hkl;clear hkl
       go_wp2_with (
        at_builtin
        go_must (refine xW elSLabel J' _ _ J' w7 wn.heap.size _ _ _ nK J' A0 0 (cap - jj) ((([]:List Label)).flatMap lrow) J' J' asg.out.2 (rowsOne lrow_one _) O' O' avR ?_)
        intro v8 w8 Le hg8 hat8;rw [show jj+1+0 = N+1 by omega] at Le;obtain ⟨g8,p8,hv8,hgb8,hgp8,hgl8⟩:=wW Le O'
        subst hv8)
       exact Zafm
     | cons z s2 =>
       have hjk:jj < N:=(by have e1:=congrArg List.length HE.out;have e2:=HSL.out;have e3:=HJ.out;rw [List.length_append,List.length_cons] at e1;omega);have z0:wr.cell? ⟨g,jj * 2,none⟩ = some (.string z.key):=MC.out _ _ _ (HGC.out (jj * 2+0) _ (by rw [HE.out];exact rowsAt (row:=lrow) (S:=2) (fun _=>rfl) _ jj z (by rw [List.getElem?_append_right (by have:=HJ.out;omega),show jj - s1.length = 0 by have:=HJ.out;omega];rfl) 0 _ rfl)) hg2;have z1:wr.cell? ⟨g,jj * 2+1,none⟩ = some (.string z.value):=MC.out _ _ _ (HGC.out (jj * 2+1) _ (by rw [HE.out];exact rowsAt (row:=lrow) (S:=2) (fun _=>rfl) _ jj z (by rw [List.getElem?_append_right (by have:=HJ.out;omega),show jj - s1.length = 0 by have:=HJ.out;omega];rfl) 1 _ rfl)) hg2;have hjd:decide ((jj:Int) < (N:Int)) = true:=(by simp;omega);have HZM:=I' (show z∈xs from HSM2.out z avz);cases hL:kS labCv y z with
       | false =>have HL:=I' hL;have hle:=lab_le hL;obtain ⟨hle1,hle2⟩:=hle;clear hL;exact Zaez
       | true =>
         have HL:=I' hL;have hle:=lab_gt hL;have HI:=I' (show OM (kS labCv) y (SS) = s1++y :: (z :: s2) by rw [HE.out];exact PY s1 (z :: s2) HN.out (.inr ⟨_,_,rfl,HL.out⟩));clear hL;go_wp2_with fail
         refine aF wr U' U' (aj _) ?_
         repeat (first
          | (apply aG
             case hw=>rfl
             simp only [Act.put,pz])
          | (apply aH
             case hw=>rfl
             case h =>exact Zaak
             simp only [Act.put,pz]))
         refine aN ?_;intro wn hn;replace hn:=hn.out;have hbn:Below wo.heap.size wo wn:=ah hbr hn;have HBN:=I' (show Below w2.heap.size w2 wn from ah HBO.out hbn);have RJ:=mG HROW.out hbn;obtain ⟨_,hgn,apy,V4⟩:=IE RJ
         have HNC:=I' (show ∀q u,(s1.flatMap lrow)[q]? = some u→wn.cell? ((⟨g,0,none⟩:Addr).add q) = some u from fun q u hu=>by
          rw [Addr.add_lit,Nat.zero_add];refine V4 q u ?_
          rw [HE.out,List.flatMap_append,List.getElem?_append_left (List.getElem?_eq_some_iff.1 hu).1];exact hu)
         have Gn:=I' (show ∀q u,((z :: s2).flatMap lrow)[q]? = some u→wn.cell? ⟨g,jj * 2+q,none⟩ = some u from fun q u hu=>by
          refine V4 (jj * 2+q) u ?_
          rw [HE.out,List.flatMap_append,List.getElem?_append_right (by rw [rowsLen (row:=lrow) (S:=2) (fun _=>rfl),HJ.out];omega),rowsLen (row:=lrow) (S:=2) (fun _=>rfl),HJ.out,Nat.add_sub_cancel_left];exact hu)
         have hl2:jj+(z :: s2).length = N:=(by have e1:=congrArg List.length HE.out;have e2:=HSL.out;have e3:=HJ.out;rw [List.length_append] at e1;omega);have hjk2:jj≤N:=O';have hjc:jj≤cap:=O';have hcj:¬cap = jj:=O';replace k0:=(hn.cell (p:=⟨b,o+k * 2,none⟩) awO).trans k0;replace k1:=(hn.cell (p:=⟨b,o+k * 2+1,none⟩) awO).trans k1;have hbn2:b < wn.heap.size:=(by have:=hn.size;omega);have HL2:=I' hl2;have HBW:=I' hbn;clear RJ V4 hl2 hbn;go_wp2_with fail
         refine zU wn 12 U' U' (aj _) ?_;refine YU (fun a0 a' w'=>∃(g9 p9:Nat) (v0_ v1_ v2_ v3_ v4_ v5_ v6_ v7_ v8_ v9_:Value),a' = (Act.put (Act.put (Act.put (Act.put (Act.put (Act.put (Act.put (Act.put (Act.put (Act.put (Act.put (Act.put a0 (some 42) (v0_)) (some 43) (v1_)) (some 44) (v2_)) (some 45) (v3_)) (some 46) (v4_)) (some 47) (v5_)) (some 48) (v6_)) (some 49) (v7_)) (some 50) (v8_)) (some 51) (v9_)) (some 52) (.slice (some ⟨g9,0,none⟩) (jj+1) p9)) (some 8) (.slice (some ⟨g9,0,none⟩) (jj+1) p9))∧Below wn.heap.size wn w'∧World.ownsRow w' wn.heap.size 107 2 (.slice (some ⟨g9,0,none⟩) (jj+1) p9) (jj+1) ((s1.flatMap lrow)++[.string y.key,.string y.value])) ?_ ?_;rotate_left
         ·exact Zad8
         intro a' w7 hE7;obtain ⟨g9,p9,v0_,v1_,v2_,v3_,v4_,v5_,v6_,v7_,v8_,v9_,rfl,hb7,nK⟩:=hE7;try simp only [Act.put,pz]
         have hkl:N - jj = (z :: s2).length:=(by have:=HL2.out;omega);have HKL:=I' hkl;clear hkl
         go_wp2_with (
          at_builtin
          go_must (refine xW elSLabel J' _ _ J' w7 wn.heap.size _ _ _ nK J' ⟨g,jj * 2,none⟩ (N - jj) (cap - jj) ((z :: s2).flatMap lrow) J' (by rw [rowsLen (row:=lrow) (S:=2) (fun _=>rfl),HKL.out]) (fun q u hu=>by rw [Addr.add_lit];exact (hb7.cell (p:=⟨g,jj * 2+q,none⟩) hgn).trans (Gn.out q u hu)) (rowsOne lrow_one _) O' O' avR ?_)
          intro v8 w8 Le hg8 hat8;rw [show jj+1+(N - jj) = N+1 by omega] at Le;obtain ⟨g8,p8,hv8,hgb8,hgp8,hgl8⟩:=wW Le O'
          subst hv8)
         exact Zafm
   ·have hkl:k = xs.length:=O';subst hkl;rw [List.take_length] at hrow HSL;have HBB:=I' (show Below w.heap.size w wr from HB2.out.trans (hbl.mono HB2.out.size));have HBL:=I' hbl;have hmem:∀z∈sortB (kS labCv) [] (xs),z∈xs:=fun z hz=>sortLab_mem hz;rw [← HSL.out] at hrow;obtain ⟨A4,c4,G4,hv4,hO4⟩:=rows_own (β:=Label) (row:=lrow) rfl (sortB (kS labCv) [] (xs)) hrow (fun x hx=>rdLabel_flat HRD.out (hmem x hx) wr);rw [HSL.out] at hv4;simp only [Value.slice.injEq,true_and] at hv4;obtain ⟨hA4,hc4⟩:=hv4;subst hA4 hc4;have HO4:=I' (hO4.mono HB2.out.size);have HOK:=I' (Jw (sortB (kS labCv) [] (xs)) _ N cap G4 wr hO4.rd HSL.out.symm (by rw [HSL.out];omega) (fun l hl=>Eo.out l (hmem l hl)));clear hbl hrow hO4 hmem;cases hr:sD (sortB (kS labCv) [] (xs)) with
    | true =>have HR:=I' (sortLabelsR_yes hr);exact Zafi
    | false =>have HR:=I' (sortLabelsR_no hr);have HRR:=I' hr;clear hr;obtain ⟨A3,c3,G3,hv3,hO3⟩:=Own.of_flat (fun {w x cs F} hh=>(vO hh).2.1) HOWN.out HRC.out;exact Zabz
end Go.Proofs.YtkjeocdobidadaaGreat
