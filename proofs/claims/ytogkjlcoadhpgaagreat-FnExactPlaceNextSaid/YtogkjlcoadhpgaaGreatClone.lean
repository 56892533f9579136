/- slices.Clone at labels, taints, tolerances, strings, needs. No condition. -/
import Derived.Test.YtogkjlcoadhpgaaGreatRowK
import Derived.Test.YtogkjlcoadhpgaaGreatWordsS
import Derived.Lib.SliceRun
import Derived.Test.YtogkjlcoadhpgaaGreatAppendAt
namespace Go.Proofs.YtogkjlcoadhpgaaGreat
open Go.ChangeShapes Go.WideShapes Go.ChangeAt Go.RowKit
set_option linter.unusedVariables false
set_option linter.unusedSimpArgs false
theorem anQ:(Tryz.prog.info? 123).map (fun i=>(i.zero,i.size,i.bytes)) = some (some ((.agg #[.string ⟨#[]⟩,.string ⟨#[]⟩])),2,32):=by kernel_rfl
theorem afn:DL Tryz.prog 68 123 ((.agg #[.string ⟨#[]⟩,.string ⟨#[]⟩])) 2 32:=⟨Tryz.underlying68,anQ,rfl,by omega⟩
set_option maxRecDepth 100000 in
set_option maxHeartbeats 1000000 in
theorem aei (xs:List Label) (A:Option Addr) (c:Nat) (F:List Nat) (w:World) (h:Sl w xs A c F) (hl:(xs.length:Int)≤1048576) :
 Calls Tryz.prog 93 #[.slice A xs.length c] w fun e w'=>∃A' c' ds G,e = .returned (.slice A' xs.length c')∧w'.ownsRow w.heap.size 123 2 (.slice A' xs.length c') xs.length ds∧jo w' xs ds G∧(∀b∈G,b∈F)∧Below w.heap.size w w':=by
 cases A with
 | none =>
   obtain rfl:xs = []:=by
    exact Zabp
   have q22:∀(w:World) (a:Option Addr) (n c n' c':Nat),(binOp .eql 68 (.slice a n c) (.slice none n' c')).run Tryz.prog w = .ok (.bool a.isNone) w:=fun w a n c n' c'=>Lib.run_eql_slice_nil w _ _ a n c n' c' Tryz.underlying68
   go_enter Tryz.func93,Tryz.ntmps93
   exact Zacb
 | some ad =>
   have H:=Lib.hid h
   clear h
   have q22:∀(w:World) (a:Option Addr) (n c n' c':Nat),(binOp .eql 68 (.slice a n c) (.slice none n' c')).run Tryz.prog w = .ok (.bool a.isNone) w:=fun w a n c n' c'=>Lib.run_eql_slice_nil w _ _ a n c n' c' Tryz.underlying68
   go_enter Tryz.func93,Tryz.ntmps93
   go_wp2_with (
    at_builtin
    go_must (refine rW afn (by rfl) (by rfl) _ _ (by rfl) _ w.heap.size _ 0 [] (World.ownsRow_made (size:=2) w #[] 0 (Nat.le_refl _) (Nat.zero_le _) (by simp)) (by rfl) xs (some ad) c F (H.out.ext (ak (aj _) _)) (by rfl) (by omega) (by omega) (by simp) ?_)
    intro v2 w2 ds G hrc hsub hown hg hat
    go_must (obtain ⟨A2,c2,hv2⟩:=mY hown)
    go_must (subst hv2))
   simp only [Nat.zero_add,List.nil_append] at hown
   go_ret
   refine ⟨A2,c2,ds,G,by simp,hown,hrc.frame (fun b hb=>hg.block b (hrc.lt b hb) (fun e=>?_)) hg.size,hsub,lS (World.ownsRow_made (e:=123) (size:=2) w #[] 0 (Nat.le_refl _) (Nat.zero_le _) (by simp)) hg (ak (aj _) _) (by simp)⟩
   exact Zac7
theorem acO {w:World} {x:Label} {cs:List Value} {F:List Nat} (h:rd w x cs F):F = []:=by obtain ⟨_,hF,_⟩:=vO h;exact hF
theorem Xo (xs:List Label) (A:Option Addr) (c:Nat) (F:List Nat) (w:World) (h:Sl w xs A c F) (hl:(xs.length:Int)≤1048576) :
 Calls Tryz.prog 93 #[.slice A xs.length c] w fun e w'=>∃A' c' F',e = .returned (.slice A' xs.length c')∧Own w' w.heap.size xs [.slice A' xs.length c'] F'∧Below w.heap.size w w':=by
 refine (aei xs A c F w h hl).mono ?_
 rintro e w' ⟨A',c',ds,G,rfl,hown,hrc,_,hb⟩
 obtain ⟨A2,c2,G2,hv,hO⟩:=Own.of_flat acO hown hrc
 simp only [Value.slice.injEq,true_and] at hv
 obtain ⟨rfl,rfl⟩:=hv
 exact ⟨A',c',G2,rfl,hO,hb⟩
theorem anR:(Tryz.prog.info? 126).map (fun i=>(i.zero,i.size,i.bytes)) = some (some ((.agg #[.string ⟨#[]⟩,.string ⟨#[]⟩,.int .i64 0])),3,40):=by kernel_rfl
theorem alP:DL Tryz.prog 69 126 ((.agg #[.string ⟨#[]⟩,.string ⟨#[]⟩,.int .i64 0])) 3 40:=⟨Tryz.underlying69,anR,rfl,by omega⟩
set_option maxRecDepth 100000 in
set_option maxHeartbeats 1000000 in
theorem aej (xs:List iU) (A:Option Addr) (c:Nat) (F:List Nat) (w:World) (h:Sl w xs A c F) (hl:(xs.length:Int)≤1048576) :
 Calls Tryz.prog 94 #[.slice A xs.length c] w fun e w'=>∃A' c' ds G,e = .returned (.slice A' xs.length c')∧w'.ownsRow w.heap.size 126 3 (.slice A' xs.length c') xs.length ds∧jo w' xs ds G∧(∀b∈G,b∈F)∧Below w.heap.size w w':=by
 cases A with
 | none =>
   obtain rfl:xs = []:=by
    exact Zabp
   have q22:∀(w:World) (a:Option Addr) (n c n' c':Nat),(binOp .eql 69 (.slice a n c) (.slice none n' c')).run Tryz.prog w = .ok (.bool a.isNone) w:=fun w a n c n' c'=>Lib.run_eql_slice_nil w _ _ a n c n' c' Tryz.underlying69
   go_enter Tryz.func94,Tryz.ntmps94
   exact Zacb
 | some ad =>
   have H:=Lib.hid h
   clear h
   have q22:∀(w:World) (a:Option Addr) (n c n' c':Nat),(binOp .eql 69 (.slice a n c) (.slice none n' c')).run Tryz.prog w = .ok (.bool a.isNone) w:=fun w a n c n' c'=>Lib.run_eql_slice_nil w _ _ a n c n' c' Tryz.underlying69
   go_enter Tryz.func94,Tryz.ntmps94
   go_wp2_with (
    at_builtin
    go_must (refine rW alP (by rfl) (by rfl) _ _ (by rfl) _ w.heap.size _ 0 [] (World.ownsRow_made (size:=3) w #[] 0 (Nat.le_refl _) (Nat.zero_le _) (by simp)) (by rfl) xs (some ad) c F (H.out.ext (ak (aj _) _)) (by rfl) (by omega) (by omega) (by simp) ?_)
    intro v2 w2 ds G hrc hsub hown hg hat
    go_must (obtain ⟨A2,c2,hv2⟩:=mY hown)
    go_must (subst hv2))
   simp only [Nat.zero_add,List.nil_append] at hown
   go_ret
   refine ⟨A2,c2,ds,G,by simp,hown,hrc.frame (fun b hb=>hg.block b (hrc.lt b hb) (fun e=>?_)) hg.size,hsub,lS (World.ownsRow_made (e:=126) (size:=3) w #[] 0 (Nat.le_refl _) (Nat.zero_le _) (by simp)) hg (ak (aj _) _) (by simp)⟩
   exact Zac7
theorem aiH {w:World} {x:iU} {cs:List Value} {F:List Nat} (h:rd w x cs F):F = []:=by obtain ⟨_,hF,_⟩:=oK h;exact hF
theorem afo (xs:List iU) (A:Option Addr) (c:Nat) (F:List Nat) (w:World) (h:Sl w xs A c F) (hl:(xs.length:Int)≤1048576) :
 Calls Tryz.prog 94 #[.slice A xs.length c] w fun e w'=>∃A' c' F',e = .returned (.slice A' xs.length c')∧Own w' w.heap.size xs [.slice A' xs.length c'] F'∧Below w.heap.size w w':=by
 refine (aej xs A c F w h hl).mono ?_
 rintro e w' ⟨A',c',ds,G,rfl,hown,hrc,_,hb⟩
 obtain ⟨A2,c2,G2,hv,hO⟩:=Own.of_flat aiH hown hrc
 simp only [Value.slice.injEq,true_and] at hv
 obtain ⟨rfl,rfl⟩:=hv
 exact ⟨A',c',G2,rfl,hO,hb⟩
theorem afp:(Tryz.prog.info? 129).map (fun i=>(i.zero,i.size,i.bytes)) = some (some ((.agg #[.string ⟨#[]⟩,.bool false,.string ⟨#[]⟩,.int .i64 0])),4,48):=by kernel_rfl
theorem abo:DL Tryz.prog 74 129 ((.agg #[.string ⟨#[]⟩,.bool false,.string ⟨#[]⟩,.int .i64 0])) 4 48:=⟨Tryz.underlying74,afp,rfl,by omega⟩
set_option maxRecDepth 100000 in
set_option maxHeartbeats 1000000 in
theorem Y5 (xs:List bH) (A:Option Addr) (c:Nat) (F:List Nat) (w:World) (h:Sl w xs A c F) (hl:(xs.length:Int)≤1048576) :
 Calls Tryz.prog 96 #[.slice A xs.length c] w fun e w'=>∃A' c' ds G,e = .returned (.slice A' xs.length c')∧w'.ownsRow w.heap.size 129 4 (.slice A' xs.length c') xs.length ds∧jo w' xs ds G∧(∀b∈G,b∈F)∧Below w.heap.size w w':=by
 cases A with
 | none =>
   obtain rfl:xs = []:=by
    exact Zabp
   have q22:∀(w:World) (a:Option Addr) (n c n' c':Nat),(binOp .eql 74 (.slice a n c) (.slice none n' c')).run Tryz.prog w = .ok (.bool a.isNone) w:=fun w a n c n' c'=>Lib.run_eql_slice_nil w _ _ a n c n' c' Tryz.underlying74
   go_enter Tryz.func96,Tryz.ntmps96
   exact Zacb
 | some ad =>
   have H:=Lib.hid h
   clear h
   have q22:∀(w:World) (a:Option Addr) (n c n' c':Nat),(binOp .eql 74 (.slice a n c) (.slice none n' c')).run Tryz.prog w = .ok (.bool a.isNone) w:=fun w a n c n' c'=>Lib.run_eql_slice_nil w _ _ a n c n' c' Tryz.underlying74
   go_enter Tryz.func96,Tryz.ntmps96
   go_wp2_with (
    at_builtin
    go_must (refine rW abo (by rfl) (by rfl) _ _ (by rfl) _ w.heap.size _ 0 [] (World.ownsRow_made (size:=4) w #[] 0 (Nat.le_refl _) (Nat.zero_le _) (by simp)) (by rfl) xs (some ad) c F (H.out.ext (ak (aj _) _)) (by rfl) (by omega) (by omega) (by simp) ?_)
    intro v2 w2 ds G hrc hsub hown hg hat
    go_must (obtain ⟨A2,c2,hv2⟩:=mY hown)
    go_must (subst hv2))
   simp only [Nat.zero_add,List.nil_append] at hown
   go_ret
   refine ⟨A2,c2,ds,G,by simp,hown,hrc.frame (fun b hb=>hg.block b (hrc.lt b hb) (fun e=>?_)) hg.size,hsub,lS (World.ownsRow_made (e:=129) (size:=4) w #[] 0 (Nat.le_refl _) (Nat.zero_le _) (by simp)) hg (ak (aj _) _) (by simp)⟩
   exact Zac7
theorem Zk {w:World} {x:bH} {cs:List Value} {F:List Nat} (h:rd w x cs F):F = []:=by obtain ⟨_,hF,_⟩:=jv h;exact hF
theorem aap (xs:List bH) (A:Option Addr) (c:Nat) (F:List Nat) (w:World) (h:Sl w xs A c F) (hl:(xs.length:Int)≤1048576) :
 Calls Tryz.prog 96 #[.slice A xs.length c] w fun e w'=>∃A' c' F',e = .returned (.slice A' xs.length c')∧Own w' w.heap.size xs [.slice A' xs.length c'] F'∧Below w.heap.size w w':=by
 refine (Y5 xs A c F w h hl).mono ?_
 rintro e w' ⟨A',c',ds,G,rfl,hown,hrc,_,hb⟩
 obtain ⟨A2,c2,G2,hv,hO⟩:=Own.of_flat Zk hown hrc
 simp only [Value.slice.injEq,true_and] at hv
 obtain ⟨rfl,rfl⟩:=hv
 exact ⟨A',c',G2,rfl,hO,hb⟩
theorem Xj:(Tryz.prog.info? 9).map (fun i=>(i.zero,i.size,i.bytes)) = some (some (.string ⟨#[]⟩),1,16):=by kernel_rfl
theorem Ud:DL Tryz.prog 44 9 (.string ⟨#[]⟩) 1 16:=⟨Tryz.underlying44,Xj,rfl,by omega⟩
set_option maxRecDepth 100000 in
set_option maxHeartbeats 1000000 in
theorem LP (xs:List ByteArray) (A:Option Addr) (c:Nat) (F:List Nat) (w:World) (h:Sl w xs A c F) (hl:(xs.length:Int)≤1048576) :
 Calls Tryz.prog 139 #[.slice A xs.length c] w fun e w'=>∃A' c' ds G,e = .returned (.slice A' xs.length c')∧w'.ownsRow w.heap.size 9 1 (.slice A' xs.length c') xs.length ds∧jo w' xs ds G∧(∀b∈G,b∈F)∧Below w.heap.size w w':=by
 cases A with
 | none =>
   obtain rfl:xs = []:=by
    exact Zabp
   have q22:∀(w:World) (a:Option Addr) (n c n' c':Nat),(binOp .eql 44 (.slice a n c) (.slice none n' c')).run Tryz.prog w = .ok (.bool a.isNone) w:=fun w a n c n' c'=>Lib.run_eql_slice_nil w _ _ a n c n' c' Tryz.underlying44
   go_enter Tryz.func139,Tryz.ntmps139
   exact Zacb
 | some ad =>
   have H:=Lib.hid h
   clear h
   have q22:∀(w:World) (a:Option Addr) (n c n' c':Nat),(binOp .eql 44 (.slice a n c) (.slice none n' c')).run Tryz.prog w = .ok (.bool a.isNone) w:=fun w a n c n' c'=>Lib.run_eql_slice_nil w _ _ a n c n' c' Tryz.underlying44
   go_enter Tryz.func139,Tryz.ntmps139
   go_wp2_with (
    at_builtin
    go_must (refine rW Ud (by rfl) (by rfl) _ _ (by rfl) _ w.heap.size _ 0 [] (World.ownsRow_made (size:=1) w #[] 0 (Nat.le_refl _) (Nat.zero_le _) (by simp)) (by rfl) xs (some ad) c F (H.out.ext (ak (aj _) _)) (by rfl) (by omega) (by omega) (by simp) ?_)
    intro v2 w2 ds G hrc hsub hown hg hat
    go_must (obtain ⟨A2,c2,hv2⟩:=mY hown)
    go_must (subst hv2))
   simp only [Nat.zero_add,List.nil_append] at hown
   go_ret
   refine ⟨A2,c2,ds,G,by simp,hown,hrc.frame (fun b hb=>hg.block b (hrc.lt b hb) (fun e=>?_)) hg.size,hsub,lS (World.ownsRow_made (e:=9) (size:=1) w #[] 0 (Nat.le_refl _) (Nat.zero_le _) (by simp)) hg (ak (aj _) _) (by simp)⟩
   exact Zac7
theorem P8 {w:World} {x:ByteArray} {cs:List Value} {F:List Nat} (h:rd w x cs F):F = []:=h.2.1
theorem Ox (xs:List ByteArray) (A:Option Addr) (c:Nat) (F:List Nat) (w:World) (h:Sl w xs A c F) (hl:(xs.length:Int)≤1048576) :
 Calls Tryz.prog 139 #[.slice A xs.length c] w fun e w'=>∃A' c' F',e = .returned (.slice A' xs.length c')∧Own w' w.heap.size xs [.slice A' xs.length c'] F'∧Below w.heap.size w w':=by
 refine (LP xs A c F w h hl).mono ?_
 rintro e w' ⟨A',c',ds,G,rfl,hown,hrc,_,hb⟩
 obtain ⟨A2,c2,G2,hv,hO⟩:=Own.of_flat P8 hown hrc
 simp only [Value.slice.injEq,true_and] at hv
 obtain ⟨rfl,rfl⟩:=hv
 exact ⟨A',c',G2,rfl,hO,hb⟩
theorem apQ:(Tryz.prog.info? 139).map (fun i=>(i.zero,i.size,i.bytes)) = some (some ((.agg #[.string ⟨#[]⟩,.int .i64 0,.slice none 0 0])),3,48):=by kernel_rfl
theorem apf:DL Tryz.prog 73 139 ((.agg #[.string ⟨#[]⟩,.int .i64 0,.slice none 0 0])) 3 48:=⟨Tryz.underlying73,apQ,rfl,by omega⟩
set_option maxRecDepth 100000 in
set_option maxHeartbeats 1000000 in
theorem afq (xs:List Need) (A:Option Addr) (c:Nat) (F:List Nat) (w:World) (h:Sl w xs A c F) (hl:(xs.length:Int)≤1048576) :
 Calls Tryz.prog 138 #[.slice A xs.length c] w fun e w'=>∃A' c' ds G,e = .returned (.slice A' xs.length c')∧w'.ownsRow w.heap.size 139 3 (.slice A' xs.length c') xs.length ds∧jo w' xs ds G∧(∀b∈G,b∈F)∧Below w.heap.size w w':=by
 cases A with
 | none =>
   obtain rfl:xs = []:=by
    exact Zabp
   have q22:∀(w:World) (a:Option Addr) (n c n' c':Nat),(binOp .eql 73 (.slice a n c) (.slice none n' c')).run Tryz.prog w = .ok (.bool a.isNone) w:=fun w a n c n' c'=>Lib.run_eql_slice_nil w _ _ a n c n' c' Tryz.underlying73
   go_enter Tryz.func138,Tryz.ntmps138
   exact Zacb
 | some ad =>
   have H:=Lib.hid h
   clear h
   have q22:∀(w:World) (a:Option Addr) (n c n' c':Nat),(binOp .eql 73 (.slice a n c) (.slice none n' c')).run Tryz.prog w = .ok (.bool a.isNone) w:=fun w a n c n' c'=>Lib.run_eql_slice_nil w _ _ a n c n' c' Tryz.underlying73
   go_enter Tryz.func138,Tryz.ntmps138
   go_wp2_with (
    at_builtin
    go_must (refine rW apf (by rfl) (by rfl) _ _ (by rfl) _ w.heap.size _ 0 [] (World.ownsRow_made (size:=3) w #[] 0 (Nat.le_refl _) (Nat.zero_le _) (by simp)) (by rfl) xs (some ad) c F (H.out.ext (ak (aj _) _)) (by rfl) (by omega) (by omega) (by simp) ?_)
    intro v2 w2 ds G hrc hsub hown hg hat
    go_must (obtain ⟨A2,c2,hv2⟩:=mY hown)
    go_must (subst hv2))
   simp only [Nat.zero_add,List.nil_append] at hown
   go_ret
   refine ⟨A2,c2,ds,G,by simp,hown,hrc.frame (fun b hb=>hg.block b (hrc.lt b hb) (fun e=>?_)) hg.size,hsub,lS (World.ownsRow_made (e:=139) (size:=3) w #[] 0 (Nat.le_refl _) (Nat.zero_le _) (by simp)) hg (ak (aj _) _) (by simp)⟩
   exact Zac7
end Go.Proofs.YtogkjlcoadhpgaaGreat
namespace Go.Proofs.YtogkjlcoadhpgaaGreat
open Go.ChangeShapes Go.WideShapes Go.ChangeAt Go.RowKit
set_option linter.unusedVariables false
set_option linter.unusedSimpArgs false
set_option maxRecDepth 100000 in
set_option maxHeartbeats 2000000 in
theorem ahY (xs:List Need) (A:Option Addr) (c:Nat) (F:List Nat) (w:World) (h:Sl w xs A c F) (hl:(xs.length:Int)≤1048576) (hv:∀x∈xs,(x.values.length:Int)≤1048576) :
 Calls Tryz.prog 95 #[.slice A xs.length c] w fun e w'=>∃A' c' F',e = .returned (.slice A' xs.length c')∧Own w' w.heap.size xs [.slice A' xs.length c'] F'∧Below w.heap.size w w':=by
 have HV:=Lib.hid hv
 clear hv
 go_enter Tryz.func95,Tryz.ntmps95
 go_wp2_with fail
 refine (afq xs A c F w h hl).mono ?_
 rintro e w1 ⟨A',c',ds,G,rfl,hown,hrc,hsub,hb1⟩
 rcases Fill.oJ hown with ⟨hv,hn⟩ | ⟨g,cap,N,hv,hg,hfill,hcap,hmx⟩
 ·obtain rfl:=List.eq_nil_of_length_eq_zero hn
  simp only [Value.slice.injEq] at hv
  obtain ⟨rfl,_,rfl⟩:=hv
  clear hown hrc
  simp only [List.length_nil] at *
  have hlt:(0:Int) < 0↔False:=by simp
  go_wp2_with fail
  go_loopw [10] (fun i wr=>i = .int .i64 0∧wr = w1) (fun _ _=>0)
  case atStart=>exact ⟨rfl,rfl⟩
  case round =>
   obtain ⟨rfl,rfl⟩:=hrel
   go_wp2
   go_ret
   exact ⟨_,_,_,rfl,⟨Sl.nil _ none 0 (Nat.zero_le _),List.nodup_nil,(fun b hb=>by cases hb),(fun b hb=>by cases hb)⟩,hb1⟩
 ·simp only [Value.slice.injEq,true_and] at hv
  obtain ⟨rfl,rfl⟩:=hv
  clear hown
  go_wp2_with fail
  go_loopw [10] (fun i wr=>∃(k:Nat) (es d2:List Value) (G2 F':List Nat),k≤xs.length∧i = .int .i64 k∧Hid (es.length = k * 3)∧Fill wr g 139 N (es++d2)∧jo w1 (xs.drop k) d2 G2∧aY wr (g+1) (xs.take k) es F'∧Below w.heap.size w wr) (fun i _=>xs.length - (intOf i).toNat)
  case atStart=>exact ⟨0,[],ds,G,[],Nat.zero_le _,rfl,by show _ = _;simp,by simpa using hfill,by simpa using hrc,aY.nil _ _,hb1⟩
  case round =>
   obtain ⟨k,es,d2,G2,F',hk,rfl,hd,hf,hr2,hO,hbl⟩:=hrel
   by_cases hlt:k < xs.length
   ·have hdk:xs.drop k = xs[k] :: xs.drop (k+1):=(List.getElem_cons_drop ..).symm
    rw [hdk] at hr2
    obtain ⟨c1,d3,F1,F3,rfl,_,hr3,hr4⟩:=hr2
    obtain ⟨DT,DU,alQ,hck,hF3,adC,hop3,abp⟩:=og hr3
    subst hck
    clear hF3 hr3 hdk
    obtain ⟨b,o,ck,Fk,rfl,o9,hbs,hr,hsub2,hc⟩:=(h.ext hbl).get hlt
    obtain ⟨pX,pY,KG,hck,hF1,xO,hop1,wO⟩:=og hr
    subst hck
    clear hF1 hr
    have q0:wr.cell? ⟨b,o+k * 3,none⟩ = some (.string xs[k].key):=by exact hc 0 _ rfl
    have q1:wr.cell? ⟨b,o+k * 3+1,none⟩ = some (.int .i64 xs[k].op):=by rw [Nat.add_assoc];exact hc 1 _ rfl
    have q2:wr.cell? ⟨b,o+k * 3+2,none⟩ = some (.slice pX xs[k].values.length pY):=by rw [Nat.add_assoc];exact hc 2 _ rfl
    clear hc
    have hvl:=HV.out xs[k] (List.getElem_mem hlt)
    have hfl:=hf.lt
    have hlf:(es++(([.string xs[k].key,.int .i64 xs[k].op,.slice DT xs[k].values.length DU]:List Value)++d3)).length≤N:=by obtain ⟨_,_,_,h3,_⟩:=hf;exact h3
    simp only [List.length_append,List.length_cons,List.length_nil] at hlf
    go_wp2_with fail
    refine (Ox xs[k].values _ _ _ _ (wO.ext atS) hvl).mono ?_
    rintro e w2 ⟨A2,c2,G2',rfl,hO2,hb2⟩
    have iL:Below wr.heap.size wr w2:=ah (ak (aj _) _) hb2
    have hfW:=hf.keep (iL.block _ hfl)
    have hfz:=hfW.frozen (k * 3+2)
    obtain ⟨u2,hu2⟩:∃u,w2.cell? ⟨g,k * 3+2,none⟩ = some u:=hfW.cell (i:=k * 3+2) auz
    have hzz:wr.heap.size < w2.heap.size:=by have:=hb2.size;simp at this;omega
    go_wp2_with fail
    have hF:=hfW.set (i:=k * 3+2) (by have:=hd.out;simp;omega) (.slice A2 xs[k].values.length c2)
    have hset:(es++(([.string xs[k].key,.int .i64 xs[k].op,.slice DT xs[k].values.length DU]:List Value)++d3)).set (k * 3+2) (.slice A2 xs[k].values.length c2) = (es++[.string xs[k].key,.int .i64 xs[k].op,.slice A2 xs[k].values.length c2])++d3:=by
     rw [List.set_append_right _ _ (show es.length≤k * 3+2 from by have:=hd.out;omega),show k * 3+2 - es.length = 2 from by have:=hd.out;omega]
     simp
    rw [hset] at hF
    have hOn:Own w2 (g+1) xs[k] [.string xs[k].key,.int .i64 xs[k].op,.slice A2 xs[k].values.length c2] G2':=by
     refine Own.up (B':=g+1) (fun x:Need=>(x.key,x.op,x.values)) ?_ (Nat.le_refl _)
     refine Own.cons (c1:=[.string xs[k].key]) (rdStr _ _ (rV xO)) ?_
     refine Own.cons (c1:=[.int .i64 xs[k].op]) (jL _ _ hop1) ?_
     exact hO2.mono (by simp;omega)
    have hP:=(hO.ext iL).push (B':=wr.heap.size) (x:=xs[k]) ⟨hOn.rd,hOn.nodup,fun b hb=>by have:=hO2.base b hb;simp at this;omega,hOn.plain⟩ hfl hO.lt
    rw [← List.take_succ_eq_append_getElem hlt] at hP
    exact ⟨⟨k+1,es++[.string xs[k].key,.int .i64 xs[k].op,.slice A2 xs[k].values.length c2],d3,F3,_,by omega,by go_num,by show _ = _;(simp [hd.out]) <;> omega,hF,hr4,hP.setCell (p:=⟨g,k * 3+2,none⟩) (Nat.lt_succ_self _) _,aC (ah hbl iL) hg _⟩,by simp [intOf];omega⟩
   ·have hkl:k = xs.length:=by omega
    subst hkl
    rw [List.drop_length] at hr2
    obtain ⟨rfl,_⟩:=hr2
    rw [List.append_nil] at hf
    rw [List.take_length] at hO
    go_wp2
    go_ret
    exact ⟨_,_,_,rfl,(Own.Ep hf hO hcap hmx).mono hg,hbl⟩
set_option maxRecDepth 100000 in
set_option maxHeartbeats 2000000 in
theorem alR (xs:List Need) (A:Option Addr) (c:Nat) (F:List Nat) (w:World) (h:Sl w xs A c F) (hl:(xs.length:Int)≤1048576) (hv:∀x∈xs,(x.values.length:Int)≤1048576) :
 Calls Tryz.prog 74 #[.slice A xs.length c] w fun e w'=>∃A' c' F',e = .returned (.slice A' xs.length c')∧Own w' w.heap.size xs [.slice A' xs.length c'] F'∧Below w.heap.size w w':=by
 have HV:=Lib.hid hv
 clear hv
 go_enter Tryz.func74,Tryz.ntmps74
 go_wp2_with fail
 go_loopw [3,4] (fun v i wr=>∃(k:Nat) (ds:List Value) (F':List Nat),k≤xs.length∧i = .int .i64 k∧wr.ownsRow w.heap.size 139 3 v k ds∧aY wr w.heap.size (xs.take k) ds F'∧(∀g,v.ownBlock = some g→g∉F')∧Below w.heap.size w wr) (fun _ i _=>xs.length - (intOf i).toNat)
 case atStart=>exact ⟨0,[],[],Nat.zero_le _,rfl,World.ownsRow_made (size:=3) w #[] 0 (Nat.le_refl _) (Nat.zero_le _) (by simp),aY.nil _ _,(fun g _ hm=>by cases hm),ak (aj _) _⟩
 case round =>
  obtain ⟨k,ds,F',hk,rfl,hown,hO,hne,hbl⟩:=hrel
  by_cases hlt:k < xs.length
  ·obtain ⟨b,o,ck,Fk,rfl,o9,hbs,hr,hsub2,hc⟩:=(h.ext hbl).get hlt
   obtain ⟨pX,pY,KG,hck,hF1,xO,hop1,wO⟩:=og hr
   subst hck
   clear hF1 hr
   have q0:wr.cell? ⟨b,o+k * 3,none⟩ = some (.string xs[k].key):=by exact hc 0 _ rfl
   have q1:wr.cell? ⟨b,o+k * 3+1,none⟩ = some (.int .i64 xs[k].op):=by rw [Nat.add_assoc];exact hc 1 _ rfl
   have q2:wr.cell? ⟨b,o+k * 3+2,none⟩ = some (.slice pX xs[k].values.length pY):=by rw [Nat.add_assoc];exact hc 2 _ rfl
   clear hc
   have hvl:=HV.out xs[k] (List.getElem_mem hlt)
   obtain ⟨Av,cv,hv0⟩:=mY hown
   subst hv0
   have HO:=Lib.hid hown
   have HN:=Lib.hid hne
   have HBL:=Lib.hid hbl
   have Y6:=Lib.hid hO.lt
   clear hown hne hbl
   have hbox:=oG.new wr [.string xs[k].key,.int .i64 xs[k].op,.slice pX xs[k].values.length pY] 139
   have HM:=Lib.hid (show ((wr.alloc (.cells ([.string xs[k].key,.int .i64 xs[k].op,.slice pX xs[k].values.length pY]:List Value).toArray 139)).alloc (.cells #[] 9)).ownsRow (wr.heap.size+1) 9 1 (.slice (some ⟨wr.heap.size+1,0,none⟩) 0 0) 0 [] from by
    have:=World.ownsRow_made (base:=wr.heap.size+1) (e:=9) (size:=1) (wr.alloc (.cells ([.string xs[k].key,.int .i64 xs[k].op,.slice pX xs[k].values.length pY]:List Value).toArray 139)) #[] 0 (by simp) (Nat.zero_le _) (by simp)
    rw [World.size_alloc] at this
    exact this)
   go_wp2_with (first
    | (at_builtin
       refine rW (o:=⟨some 20,_,_,_,_,_⟩) Ud (by rfl) (by rfl) _ _ (by rfl) _ (wr.heap.size+1) _ 0 [] HM.out (by rfl) xs[k].values pX pY _ (wO.ext (ak (ak (aj _) _) _)) (by rfl) (by omega) (by omega) (by simp) ?_
       intro v2 w2 ds2 G hrc hsub hown2 hg hat
       go_must (obtain ⟨A2,c2,hv2⟩:=mY hown2)
       go_must (subst hv2)
       go_must (simp only [Nat.zero_add,List.nil_append] at hown2)
       go_must (have hb2:Below wr.heap.size wr w2:=lS (vP HM.out (Nat.le_succ _)) hg (ak (ak (aj _) _) _) (by simp;omega))
       go_must (have afr:oG w2 wr.heap.size [.string xs[k].key,.int .i64 xs[k].op,.slice pX xs[k].values.length pY]:=hbox.keep ((hg.block _ (by simp;omega) avf).trans (heap_alloc_old _ _ (by simp))))
       go_must (have hrc2:jo w2 xs[k].values ds2 G:=hrc.frame (fun b hb=>hg.block b (hrc.lt b hb) (fun e=>by have:=(wO.lt b (hsub b hb));simp [Value.ownBlock] at e;omega)) hg.size)
       go_must (obtain ⟨A3,c3,G3,hv3,hO2⟩:=Own.of_flat P8 hown2 hrc2)
       go_must (simp only [Value.slice.injEq,true_and] at hv3)
       go_must (obtain ⟨rfl,rfl⟩:=hv3)
       go_must (have k0:=afr.cell (i:=0) (u:=.string xs[k].key) rfl)
       go_must (have k1:=afr.cell (i:=1) (u:=.int .i64 xs[k].op) rfl)
       go_must (have k2:=afr.cell (i:=2) (u:=.slice pX xs[k].values.length pY) rfl)
       go_must (have kl:=afr.lt)
       go_must (have kf:=afr.fz 2)
       go_must (have hOn:Own w2 (wr.heap.size+1) xs[k] [.string xs[k].key,.int .i64 xs[k].op,.slice A2 xs[k].values.length c2] G3:=Own.up (B':=wr.heap.size+1) (fun x:Need=>(x.key,x.op,x.values)) (Own.cons (c1:=[.string xs[k].key]) (rdStr _ _ (rV xO)) (Own.cons (c1:=[.int .i64 xs[k].op]) (jL _ _ hop1) hO2)) (Nat.le_refl _))
       go_must (have hOs:=hOn.setCell (p:=⟨wr.heap.size,2,none⟩) (Nat.lt_succ_self _) (.slice A2 xs[k].values.length c2))
       go_must (have hrow:(w2.setCell ⟨wr.heap.size,2,none⟩ (.slice A2 xs[k].values.length c2)).ownsRow w.heap.size 139 3 (.slice Av k cv) k ds:=EJ (mG HO.out hb2) (fun g hg=>by have:=(HO.out.lt g hg).2;omega))
       go_must (have hcs:aY (w2.setCell ⟨wr.heap.size,2,none⟩ (.slice A2 xs[k].values.length c2)) w.heap.size (xs.take k) ds F':=(hO.ext hb2).keep (fun y hy=>Below.heap_setCell _ _ _ _ (by have:=hO.lt y hy;dsimp only;omega)) aua)
       go_must (have hbS:Below wr.heap.size wr (w2.setCell ⟨wr.heap.size,2,none⟩ (.slice A2 xs[k].values.length c2)):=aC hb2 (Nat.le_refl _) _)
       go_must (have hbx:=afr.put 2 (.slice A2 xs[k].values.length c2))
       go_must (have HOS:=Lib.hid hOs)
       go_must (have HR:=Lib.hid hrow)
       go_must (have HC:=Lib.hid hcs)
       go_must (have HBS:=Lib.hid hbS)
       go_must (have hzz:=hbS.size)
       go_must (clear hOn hO2 hrc hrc2 hown2 hO hbox afr hg hat hb2 hOs hcs hbS))
    | (at_builtin
       refine uf (o:=⟨some 25,_,_,_,_,_⟩) apf (by rfl) _ _ (by rfl) _ _ _ _ _ hrow (by rfl) [.string xs[k].key,.int .i64 xs[k].op,.slice A2 xs[k].values.length c2] aue (by rfl) aub (by omega) (by omega) (by have:=HBL.out.size;omega) ?_
       intro v4 w4 hown4 hg4 Wy hat4))
   have hbl:=HBL.out
   obtain ⟨hcs4,hne4⟩:=aY.afm (v':=v4) HR.out HC.out HN.out HOS.out (by have:=hbl.size;omega) (fun g hg=>by have:=(HO.out.lt g hg).2;omega) (fun y hy=>by have:=Y6.out y hy;omega) hg4 hat4
   rw [← List.take_succ_eq_append_getElem hlt] at hcs4
   exact ⟨⟨k+1,_,_,by omega,by go_num,hown4,hcs4,hne4,lS (vP HR.out (Nat.le_refl _)) hg4 (ah hbl HBS.out) (by have:=hbl.size;omega)⟩,by simp [intOf];omega⟩
  ·have hkl:k = xs.length:=by omega
   subst hkl
   rw [List.take_length] at hO
   obtain ⟨Ah,ch,Gh,rfl,Xp⟩:=Own.oJ hown hO hne
   go_wp2
   go_ret
   exact ⟨_,_,_,rfl,Xp,hbl⟩
end Go.Proofs.YtogkjlcoadhpgaaGreat
