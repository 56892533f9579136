/- slices.Clone at labels, taints, tolerances, strings, needs. No condition. -/
import Derived.Test.YtkbkikggodlbbaaGreatLaw0
import Derived.Test.YtkbkikggodlbbaaGreatKit
import Derived.Lib.SliceRun
import Derived.Test.YtkbkikggodlbbaaGreatToBase
namespace Go.Proofs.YtkbkikggodlbbaaGreat
open Go.ChangeShapes Go.WideShapes Go.ChangeAt Go.RowKit
set_option linter.unusedVariables false
set_option linter.unusedSimpArgs false
set_option maxHeartbeats 2000000
set_option maxRecDepth 100000
theorem anQ:(Tryz.prog.info? 156).map (fun i=>(i.zero,i.size,i.bytes)) = some (some ((.agg #[.string ⟨#[]⟩,.string ⟨#[]⟩])),2,32):=by kernel_rfl
theorem afn:DL Tryz.prog 48 156 ((.agg #[.string ⟨#[]⟩,.string ⟨#[]⟩])) 2 32:=⟨Tryz.underlying48,anQ,rfl,O'⟩
theorem aei (xs:List Label) (A:Option Addr) (c:Nat) (F:List Nat) (w:World) (h:Sl w xs A c F) (hl:(xs.length:Int)≤1048576) :
 Calls Tryz.prog 118 #[.slice A xs.length c] w fun e w'=>∃A' c' ds G,e = .returned (.slice A' xs.length c')∧w'.ownsRow w.heap.size 156 2 (.slice A' xs.length c') xs.length ds∧jo w' xs ds G∧(∀b∈G,b∈F)∧Below w.heap.size w w':=by
 cases A with
 | none =>
   obtain rfl:xs = []:=by exact Zabx
   have q22:∀(w:World) (a:Option Addr) (n c n' c':Nat),(binOp .eql 48 (.slice a n c) (.slice none n' c')).run Tryz.prog w = .ok (.bool a.isNone) w:=fun w a n c n' c'=>Lib.run_eql_slice_nil w _ _ a n c n' c' Tryz.underlying48;go_enter Tryz.func118,Tryz.ntmps118;exact Zacn
 | some ad =>
   have H:=I' h;clear h;have q22:∀(w:World) (a:Option Addr) (n c n' c':Nat),(binOp .eql 48 (.slice a n c) (.slice none n' c')).run Tryz.prog w = .ok (.bool a.isNone) w:=fun w a n c n' c'=>Lib.run_eql_slice_nil w _ _ a n c n' c' Tryz.underlying48;go_enter Tryz.func118,Tryz.ntmps118
   go_wp2_with (
    at_builtin
    go_must (refine rW afn J' J' _ _ J' _ w.heap.size _ 0 [] (World.ownsRow_made (size:=2) w #[] 0 (Nat.le_refl _) (Nat.zero_le _) S') J' xs (some ad) c F (H.out.ext (ak (aj _) _)) J' O' O' S' ?_)
    intro v2 w2 ds G hrc hsub hown hg hat;go_must (obtain ⟨A2,c2,hv2⟩:=mY hown)
    go_must (subst hv2))
   simp only [Nat.zero_add,List.nil_append] at hown;go_ret
   refine ⟨A2,c2,ds,G,S',hown,hrc.frame (fun b hb=>hg.block b (hrc.lt b hb) (fun e=>?_)) hg.size,hsub,lS (World.ownsRow_made (e:=156) (size:=2) w #[] 0 (Nat.le_refl _) (Nat.zero_le _) S') hg (ak (aj _) _) S'⟩;exact Zadd
theorem acO {w:World} {x:Label} {cs:List Value} {F:List Nat} (h:rd w x cs F):F = []:=by obtain ⟨_,hF,_⟩:=vO h;exact hF
theorem Xo (xs:List Label) (A:Option Addr) (c:Nat) (F:List Nat) (w:World) (h:Sl w xs A c F) (hl:(xs.length:Int)≤1048576) :
 Calls Tryz.prog 118 #[.slice A xs.length c] w fun e w'=>∃A' c' F',e = .returned (.slice A' xs.length c')∧Own w' w.heap.size xs [.slice A' xs.length c'] F'∧Below w.heap.size w w':=by
 refine (aei xs A c F w h hl).mono ?_;rintro e w' ⟨A',c',ds,G,rfl,hown,hrc,_,hb⟩;obtain ⟨A2,c2,G2,hv,hO⟩:=Own.of_flat acO hown hrc;simp only [Value.slice.injEq,true_and] at hv;obtain ⟨rfl,rfl⟩:=hv;exact ⟨A',c',G2,rfl,hO,hb⟩
theorem anR:(Tryz.prog.info? 162).map (fun i=>(i.zero,i.size,i.bytes)) = some (some ((.agg #[.string ⟨#[]⟩,.string ⟨#[]⟩,.int .i64 0])),3,40):=by kernel_rfl
theorem alP:DL Tryz.prog 53 162 ((.agg #[.string ⟨#[]⟩,.string ⟨#[]⟩,.int .i64 0])) 3 40:=⟨Tryz.underlying53,anR,rfl,O'⟩
theorem aej (xs:List iU) (A:Option Addr) (c:Nat) (F:List Nat) (w:World) (h:Sl w xs A c F) (hl:(xs.length:Int)≤1048576) :
 Calls Tryz.prog 119 #[.slice A xs.length c] w fun e w'=>∃A' c' ds G,e = .returned (.slice A' xs.length c')∧w'.ownsRow w.heap.size 162 3 (.slice A' xs.length c') xs.length ds∧jo w' xs ds G∧(∀b∈G,b∈F)∧Below w.heap.size w w':=by
 cases A with
 | none =>
   obtain rfl:xs = []:=by exact Zabx
   have q22:∀(w:World) (a:Option Addr) (n c n' c':Nat),(binOp .eql 53 (.slice a n c) (.slice none n' c')).run Tryz.prog w = .ok (.bool a.isNone) w:=fun w a n c n' c'=>Lib.run_eql_slice_nil w _ _ a n c n' c' Tryz.underlying53;go_enter Tryz.func119,Tryz.ntmps119;exact Zacn
 | some ad =>
   have H:=I' h;clear h;have q22:∀(w:World) (a:Option Addr) (n c n' c':Nat),(binOp .eql 53 (.slice a n c) (.slice none n' c')).run Tryz.prog w = .ok (.bool a.isNone) w:=fun w a n c n' c'=>Lib.run_eql_slice_nil w _ _ a n c n' c' Tryz.underlying53;go_enter Tryz.func119,Tryz.ntmps119
   go_wp2_with (
    at_builtin
    go_must (refine rW alP J' J' _ _ J' _ w.heap.size _ 0 [] (World.ownsRow_made (size:=3) w #[] 0 (Nat.le_refl _) (Nat.zero_le _) S') J' xs (some ad) c F (H.out.ext (ak (aj _) _)) J' O' O' S' ?_)
    intro v2 w2 ds G hrc hsub hown hg hat;go_must (obtain ⟨A2,c2,hv2⟩:=mY hown)
    go_must (subst hv2))
   simp only [Nat.zero_add,List.nil_append] at hown;go_ret
   refine ⟨A2,c2,ds,G,S',hown,hrc.frame (fun b hb=>hg.block b (hrc.lt b hb) (fun e=>?_)) hg.size,hsub,lS (World.ownsRow_made (e:=162) (size:=3) w #[] 0 (Nat.le_refl _) (Nat.zero_le _) S') hg (ak (aj _) _) S'⟩;exact Zadd
theorem aiH {w:World} {x:iU} {cs:List Value} {F:List Nat} (h:rd w x cs F):F = []:=by obtain ⟨_,hF,_⟩:=oK h;exact hF
theorem afo (xs:List iU) (A:Option Addr) (c:Nat) (F:List Nat) (w:World) (h:Sl w xs A c F) (hl:(xs.length:Int)≤1048576) :
 Calls Tryz.prog 119 #[.slice A xs.length c] w fun e w'=>∃A' c' F',e = .returned (.slice A' xs.length c')∧Own w' w.heap.size xs [.slice A' xs.length c'] F'∧Below w.heap.size w w':=by
 refine (aej xs A c F w h hl).mono ?_;rintro e w' ⟨A',c',ds,G,rfl,hown,hrc,_,hb⟩;obtain ⟨A2,c2,G2,hv,hO⟩:=Own.of_flat aiH hown hrc;simp only [Value.slice.injEq,true_and] at hv;obtain ⟨rfl,rfl⟩:=hv;exact ⟨A',c',G2,rfl,hO,hb⟩
theorem afp:(Tryz.prog.info? 160).map (fun i=>(i.zero,i.size,i.bytes)) = some (some ((.agg #[.string ⟨#[]⟩,.bool false,.string ⟨#[]⟩,.int .i64 0])),4,48):=by kernel_rfl
theorem abo:DL Tryz.prog 50 160 ((.agg #[.string ⟨#[]⟩,.bool false,.string ⟨#[]⟩,.int .i64 0])) 4 48:=⟨Tryz.underlying50,afp,rfl,O'⟩
theorem Y5 (xs:List bH) (A:Option Addr) (c:Nat) (F:List Nat) (w:World) (h:Sl w xs A c F) (hl:(xs.length:Int)≤1048576) :
 Calls Tryz.prog 121 #[.slice A xs.length c] w fun e w'=>∃A' c' ds G,e = .returned (.slice A' xs.length c')∧w'.ownsRow w.heap.size 160 4 (.slice A' xs.length c') xs.length ds∧jo w' xs ds G∧(∀b∈G,b∈F)∧Below w.heap.size w w':=by
 cases A with
 | none =>
   obtain rfl:xs = []:=by exact Zabx
   have q22:∀(w:World) (a:Option Addr) (n c n' c':Nat),(binOp .eql 50 (.slice a n c) (.slice none n' c')).run Tryz.prog w = .ok (.bool a.isNone) w:=fun w a n c n' c'=>Lib.run_eql_slice_nil w _ _ a n c n' c' Tryz.underlying50;go_enter Tryz.func121,Tryz.ntmps121;exact Zacn
 | some ad =>
   have H:=I' h;clear h;have q22:∀(w:World) (a:Option Addr) (n c n' c':Nat),(binOp .eql 50 (.slice a n c) (.slice none n' c')).run Tryz.prog w = .ok (.bool a.isNone) w:=fun w a n c n' c'=>Lib.run_eql_slice_nil w _ _ a n c n' c' Tryz.underlying50;go_enter Tryz.func121,Tryz.ntmps121
   go_wp2_with (
    at_builtin
    go_must (refine rW abo J' J' _ _ J' _ w.heap.size _ 0 [] (World.ownsRow_made (size:=4) w #[] 0 (Nat.le_refl _) (Nat.zero_le _) S') J' xs (some ad) c F (H.out.ext (ak (aj _) _)) J' O' O' S' ?_)
    intro v2 w2 ds G hrc hsub hown hg hat;go_must (obtain ⟨A2,c2,hv2⟩:=mY hown)
    go_must (subst hv2))
   simp only [Nat.zero_add,List.nil_append] at hown;go_ret
   refine ⟨A2,c2,ds,G,S',hown,hrc.frame (fun b hb=>hg.block b (hrc.lt b hb) (fun e=>?_)) hg.size,hsub,lS (World.ownsRow_made (e:=160) (size:=4) w #[] 0 (Nat.le_refl _) (Nat.zero_le _) S') hg (ak (aj _) _) S'⟩;exact Zadd
theorem Zk {w:World} {x:bH} {cs:List Value} {F:List Nat} (h:rd w x cs F):F = []:=by obtain ⟨_,hF,_⟩:=jv h;exact hF
theorem aap (xs:List bH) (A:Option Addr) (c:Nat) (F:List Nat) (w:World) (h:Sl w xs A c F) (hl:(xs.length:Int)≤1048576) :
 Calls Tryz.prog 121 #[.slice A xs.length c] w fun e w'=>∃A' c' F',e = .returned (.slice A' xs.length c')∧Own w' w.heap.size xs [.slice A' xs.length c'] F'∧Below w.heap.size w w':=by
 refine (Y5 xs A c F w h hl).mono ?_;rintro e w' ⟨A',c',ds,G,rfl,hown,hrc,_,hb⟩;obtain ⟨A2,c2,G2,hv,hO⟩:=Own.of_flat Zk hown hrc;simp only [Value.slice.injEq,true_and] at hv;obtain ⟨rfl,rfl⟩:=hv;exact ⟨A',c',G2,rfl,hO,hb⟩
theorem Xj:(Tryz.prog.info? 9).map (fun i=>(i.zero,i.size,i.bytes)) = some (some (.string ⟨#[]⟩),1,16):=by kernel_rfl
theorem Ud:DL Tryz.prog 130 9 (.string ⟨#[]⟩) 1 16:=⟨Tryz.underlying130,Xj,rfl,O'⟩
theorem LP (xs:List ByteArray) (A:Option Addr) (c:Nat) (F:List Nat) (w:World) (h:Sl w xs A c F) (hl:(xs.length:Int)≤1048576) :
 Calls Tryz.prog 163 #[.slice A xs.length c] w fun e w'=>∃A' c' ds G,e = .returned (.slice A' xs.length c')∧w'.ownsRow w.heap.size 9 1 (.slice A' xs.length c') xs.length ds∧jo w' xs ds G∧(∀b∈G,b∈F)∧Below w.heap.size w w':=by
 cases A with
 | none =>
   obtain rfl:xs = []:=by exact Zabx
   have q22:∀(w:World) (a:Option Addr) (n c n' c':Nat),(binOp .eql 130 (.slice a n c) (.slice none n' c')).run Tryz.prog w = .ok (.bool a.isNone) w:=fun w a n c n' c'=>Lib.run_eql_slice_nil w _ _ a n c n' c' Tryz.underlying130;go_enter Tryz.func163,Tryz.ntmps163;exact Zacn
 | some ad =>
   have H:=I' h;clear h;have q22:∀(w:World) (a:Option Addr) (n c n' c':Nat),(binOp .eql 130 (.slice a n c) (.slice none n' c')).run Tryz.prog w = .ok (.bool a.isNone) w:=fun w a n c n' c'=>Lib.run_eql_slice_nil w _ _ a n c n' c' Tryz.underlying130;go_enter Tryz.func163,Tryz.ntmps163
   go_wp2_with (
    at_builtin
    go_must (refine rW Ud J' J' _ _ J' _ w.heap.size _ 0 [] (World.ownsRow_made (size:=1) w #[] 0 (Nat.le_refl _) (Nat.zero_le _) S') J' xs (some ad) c F (H.out.ext (ak (aj _) _)) J' O' O' S' ?_)
    intro v2 w2 ds G hrc hsub hown hg hat;go_must (obtain ⟨A2,c2,hv2⟩:=mY hown)
    go_must (subst hv2))
   simp only [Nat.zero_add,List.nil_append] at hown;go_ret
   refine ⟨A2,c2,ds,G,S',hown,hrc.frame (fun b hb=>hg.block b (hrc.lt b hb) (fun e=>?_)) hg.size,hsub,lS (World.ownsRow_made (e:=9) (size:=1) w #[] 0 (Nat.le_refl _) (Nat.zero_le _) S') hg (ak (aj _) _) S'⟩;exact Zadd
theorem P8 {w:World} {x:ByteArray} {cs:List Value} {F:List Nat} (h:rd w x cs F):F = []:=h.2.1
theorem Ox (xs:List ByteArray) (A:Option Addr) (c:Nat) (F:List Nat) (w:World) (h:Sl w xs A c F) (hl:(xs.length:Int)≤1048576) :
 Calls Tryz.prog 163 #[.slice A xs.length c] w fun e w'=>∃A' c' F',e = .returned (.slice A' xs.length c')∧Own w' w.heap.size xs [.slice A' xs.length c'] F'∧Below w.heap.size w w':=by
 refine (LP xs A c F w h hl).mono ?_;rintro e w' ⟨A',c',ds,G,rfl,hown,hrc,_,hb⟩;obtain ⟨A2,c2,G2,hv,hO⟩:=Own.of_flat P8 hown hrc;simp only [Value.slice.injEq,true_and] at hv;obtain ⟨rfl,rfl⟩:=hv;exact ⟨A',c',G2,rfl,hO,hb⟩
theorem apQ:(Tryz.prog.info? 158).map (fun i=>(i.zero,i.size,i.bytes)) = some (some ((.agg #[.string ⟨#[]⟩,.int .i64 0,.slice none 0 0])),3,48):=by kernel_rfl
theorem apf:DL Tryz.prog 49 158 ((.agg #[.string ⟨#[]⟩,.int .i64 0,.slice none 0 0])) 3 48:=⟨Tryz.underlying49,apQ,rfl,O'⟩
theorem afq (xs:List Need) (A:Option Addr) (c:Nat) (F:List Nat) (w:World) (h:Sl w xs A c F) (hl:(xs.length:Int)≤1048576) :
 Calls Tryz.prog 162 #[.slice A xs.length c] w fun e w'=>∃A' c' ds G,e = .returned (.slice A' xs.length c')∧w'.ownsRow w.heap.size 158 3 (.slice A' xs.length c') xs.length ds∧jo w' xs ds G∧(∀b∈G,b∈F)∧Below w.heap.size w w':=by
 cases A with
 | none =>
   obtain rfl:xs = []:=by exact Zabx
   have q22:∀(w:World) (a:Option Addr) (n c n' c':Nat),(binOp .eql 49 (.slice a n c) (.slice none n' c')).run Tryz.prog w = .ok (.bool a.isNone) w:=fun w a n c n' c'=>Lib.run_eql_slice_nil w _ _ a n c n' c' Tryz.underlying49;go_enter Tryz.func162,Tryz.ntmps162;exact Zacn
 | some ad =>
   have H:=I' h;clear h;have q22:∀(w:World) (a:Option Addr) (n c n' c':Nat),(binOp .eql 49 (.slice a n c) (.slice none n' c')).run Tryz.prog w = .ok (.bool a.isNone) w:=fun w a n c n' c'=>Lib.run_eql_slice_nil w _ _ a n c n' c' Tryz.underlying49;go_enter Tryz.func162,Tryz.ntmps162
   go_wp2_with (
    at_builtin
    go_must (refine rW apf J' J' _ _ J' _ w.heap.size _ 0 [] (World.ownsRow_made (size:=3) w #[] 0 (Nat.le_refl _) (Nat.zero_le _) S') J' xs (some ad) c F (H.out.ext (ak (aj _) _)) J' O' O' S' ?_)
    intro v2 w2 ds G hrc hsub hown hg hat;go_must (obtain ⟨A2,c2,hv2⟩:=mY hown)
    go_must (subst hv2))
   simp only [Nat.zero_add,List.nil_append] at hown;go_ret
   refine ⟨A2,c2,ds,G,S',hown,hrc.frame (fun b hb=>hg.block b (hrc.lt b hb) (fun e=>?_)) hg.size,hsub,lS (World.ownsRow_made (e:=158) (size:=3) w #[] 0 (Nat.le_refl _) (Nat.zero_le _) S') hg (ak (aj _) _) S'⟩;exact Zadd
theorem ahY (xs:List Need) (A:Option Addr) (c:Nat) (F:List Nat) (w:World) (h:Sl w xs A c F) (hl:(xs.length:Int)≤1048576) (hv:∀x∈xs,(x.values.length:Int)≤1048576) :
 Calls Tryz.prog 120 #[.slice A xs.length c] w fun e w'=>∃A' c' F',e = .returned (.slice A' xs.length c')∧Own w' w.heap.size xs [.slice A' xs.length c'] F'∧Below w.heap.size w w':=by
 have HV:=I' hv;clear hv;go_enter Tryz.func120,Tryz.ntmps120;go_wp2_with fail
 refine (afq xs A c F w h hl).mono ?_;rintro e w1 ⟨A',c',ds,G,rfl,hown,hrc,hsub,hb1⟩;rcases Fill.oJ hown with ⟨hv,hn⟩ | ⟨g,cap,N,hv,hg,hfill,hcap,hmx⟩
 ·obtain rfl:=List.eq_nil_of_length_eq_zero hn;simp only [Value.slice.injEq] at hv;obtain ⟨rfl,_,rfl⟩:=hv;clear hown hrc;simp only [List.length_nil] at *;have hlt:(0:Int) < 0↔False:=by simp
  go_wp2_with fail
  go_loopw [10] (fun i wr=>i = .int .i64 0∧wr = w1) (fun _ _=>0)
  case atStart=>exact ⟨rfl,rfl⟩
  case round =>
   obtain ⟨rfl,rfl⟩:=hrel;go_wp2;go_ret
   exact ⟨_,_,_,rfl,⟨Sl.nil _ none 0 (Nat.zero_le _),List.nodup_nil,(fun b hb=>by cases hb),(fun b hb=>by cases hb)⟩,hb1⟩
 ·simp only [Value.slice.injEq,true_and] at hv;obtain ⟨rfl,rfl⟩:=hv;clear hown;go_wp2_with fail
  go_loopw [10] (fun i wr=>∃(k:Nat) (es d2:List Value) (G2 F':List Nat),k≤xs.length∧i = .int .i64 k∧Hid (es.length = k * 3)∧Fill wr g 158 N (es++d2)∧jo w1 (xs.drop k) d2 G2∧aY wr (g+1) (xs.take k) es F'∧Below w.heap.size w wr) (fun i _=>xs.length - (intOf i).toNat)
  case atStart=>exact ⟨0,[],ds,G,[],Nat.zero_le _,rfl,by show _ = _;simp,by simpa using hfill,by simpa using hrc,aY.nil _ _,hb1⟩
  case round =>
   obtain ⟨k,es,d2,G2,F',hk,rfl,hd,hf,hr2,hO,hbl⟩:=hrel;by_cases hlt:k < xs.length
   ·have hdk:xs.drop k = xs[k] :: xs.drop (k+1):=(List.getElem_cons_drop ..).symm;rw [hdk] at hr2;obtain ⟨c1,d3,F1,F3,rfl,_,hr3,hr4⟩:=hr2;obtain ⟨DT,DU,alQ,hck,hF3,adC,hop3,abp⟩:=og hr3;subst hck;clear hF3 hr3 hdk;obtain ⟨b,o,ck,Fk,rfl,o9,hbs,hr,hsub2,hc⟩:=(h.ext hbl).get hlt;obtain ⟨pX,pY,KG,hck,hF1,xO,hop1,wO⟩:=og hr;subst hck;clear hF1 hr;have q0:wr.cell? ⟨b,o+k * 3,none⟩ = some (.string xs[k].key):=(by exact hc 0 _ rfl);have q1:wr.cell? ⟨b,o+k * 3+1,none⟩ = some (.int .i64 xs[k].op):=(by rw [Nat.add_assoc];exact hc 1 _ rfl);have q2:wr.cell? ⟨b,o+k * 3+2,none⟩ = some (.slice pX xs[k].values.length pY):=(by rw [Nat.add_assoc];exact hc 2 _ rfl);clear hc;have hvl:=HV.out xs[k] (List.getElem_mem hlt);have hfl:=hf.lt;have hlf:(es++(([.string xs[k].key,.int .i64 xs[k].op,.slice DT xs[k].values.length DU]:List Value)++d3)).length≤N:=(by obtain ⟨_,_,_,h3,_⟩:=hf;exact h3);simp only [List.length_append,List.length_cons,List.length_nil] at hlf;go_wp2_with fail
    refine (Ox xs[k].values _ _ _ _ (wO.ext atS) hvl).mono ?_;rintro e w2 ⟨A2,c2,G2',rfl,hO2,hb2⟩;have iL:Below wr.heap.size wr w2:=ah (ak (aj _) _) hb2;have hfW:=hf.keep (iL.block _ hfl);have hfz:=hfW.frozen (k * 3+2);obtain ⟨u2,hu2⟩:∃u,w2.cell? ⟨g,k * 3+2,none⟩ = some u:=hfW.cell (i:=k * 3+2) auz;have hzz:wr.heap.size < w2.heap.size:=(by have:=hb2.size;simp at this;omega);go_wp2_with fail
    have hF:=hfW.set (i:=k * 3+2) (by have:=hd.out;simp;omega) (.slice A2 xs[k].values.length c2);have hset:(es++(([.string xs[k].key,.int .i64 xs[k].op,.slice DT xs[k].values.length DU]:List Value)++d3)).set (k * 3+2) (.slice A2 xs[k].values.length c2) = (es++[.string xs[k].key,.int .i64 xs[k].op,.slice A2 xs[k].values.length c2])++d3:=by rw [List.set_append_right _ _ (show es.length≤k * 3+2 from by have:=hd.out;omega),show k * 3+2 - es.length = 2 from by have:=hd.out;omega];simp
    rw [hset] at hF;have hOn:Own w2 (g+1) xs[k] [.string xs[k].key,.int .i64 xs[k].op,.slice A2 xs[k].values.length c2] G2':=by refine Own.up (B':=g+1) (fun x:Need=>(x.key,x.op,x.values)) ?_ (Nat.le_refl _);refine Own.cons (c1:=[.string xs[k].key]) (rdStr _ _ (rV xO)) ?_;refine Own.cons (c1:=[.int .i64 xs[k].op]) (jL _ _ hop1) ?_;exact hO2.mono (by simp;omega)
    have hP:=(hO.ext iL).push (B':=wr.heap.size) (x:=xs[k]) ⟨hOn.rd,hOn.nodup,fun b hb=>by have:=hO2.base b hb;simp at this;omega,hOn.plain⟩ hfl hO.lt;rw [← List.take_succ_eq_append_getElem hlt] at hP;exact ⟨⟨k+1,es++[.string xs[k].key,.int .i64 xs[k].op,.slice A2 xs[k].values.length c2],d3,F3,_,O',N',by show _ = _;(simp [hd.out]) <;> omega,hF,hr4,hP.setCell (p:=⟨g,k * 3+2,none⟩) (Nat.lt_succ_self _) _,aC (ah hbl iL) hg _⟩,by simp [intOf];omega⟩
   ·have hkl:k = xs.length:=O';subst hkl;rw [List.drop_length] at hr2;obtain ⟨rfl,_⟩:=hr2;rw [List.append_nil] at hf;rw [List.take_length] at hO;go_wp2;go_ret
    exact ⟨_,_,_,rfl,(Own.Ep hf hO hcap hmx).mono hg,hbl⟩
theorem l15Copy_row (xs:List Need) (A:Option Addr) (c:Nat) (F:List Nat) (w:World) (h:Sl w xs A c F) (hl:(xs.length:Int)≤1048576) (hv:∀x∈xs,(x.values.length:Int)≤1048576) :
 Calls Tryz.prog 105 #[.slice A xs.length c] w fun e w'=>∃v ds F',e = .returned v∧w'.ownsRow w.heap.size 158 3 v xs.length ds∧aY w' w.heap.size xs ds F'∧(∀g,v.ownBlock = some g→g∉F')∧Below w.heap.size w w':=by
 have HV:=I' hv;clear hv;go_enter Tryz.func105,Tryz.ntmps105;go_wp2_with fail
 go_loopw [3,4] (fun v i wr=>∃(k:Nat) (ds:List Value) (F':List Nat),k≤xs.length∧i = .int .i64 k∧wr.ownsRow w.heap.size 158 3 v k ds∧aY wr w.heap.size (xs.take k) ds F'∧(∀g,v.ownBlock = some g→g∉F')∧Below w.heap.size w wr) (fun _ i _=>xs.length - (intOf i).toNat)
 case atStart=>exact ⟨0,[],[],Nat.zero_le _,rfl,World.ownsRow_made (size:=3) w #[] 0 (Nat.le_refl _) (Nat.zero_le _) S',aY.nil _ _,(fun g _ hm=>by cases hm),ak (aj _) _⟩
 case round =>
  obtain ⟨k,ds,F',hk,rfl,hown,hO,hne,hbl⟩:=hrel;by_cases hlt:k < xs.length
  ·obtain ⟨b,o,ck,Fk,rfl,o9,hbs,hr,hsub2,hc⟩:=(h.ext hbl).get hlt;obtain ⟨pX,pY,KG,hck,hF1,xO,hop1,wO⟩:=og hr;subst hck;clear hF1 hr;have q0:wr.cell? ⟨b,o+k * 3,none⟩ = some (.string xs[k].key):=(by exact hc 0 _ rfl);have q1:wr.cell? ⟨b,o+k * 3+1,none⟩ = some (.int .i64 xs[k].op):=(by rw [Nat.add_assoc];exact hc 1 _ rfl);have q2:wr.cell? ⟨b,o+k * 3+2,none⟩ = some (.slice pX xs[k].values.length pY):=(by rw [Nat.add_assoc];exact hc 2 _ rfl);clear hc;have hvl:=HV.out xs[k] (List.getElem_mem hlt);obtain ⟨Av,cv,hv0⟩:=mY hown;subst hv0;have HO:=I' hown;have HN:=I' hne;have HBL:=I' hbl;have Y6:=I' hO.lt;clear hown hne hbl;have hbox:=oG.new wr [.string xs[k].key,.int .i64 xs[k].op,.slice pX xs[k].values.length pY] 158
   have HM:=I' (show ((wr.alloc (.cells ([.string xs[k].key,.int .i64 xs[k].op,.slice pX xs[k].values.length pY]:List Value).toArray 158)).alloc (.cells #[] 9)).ownsRow (wr.heap.size+1) 9 1 (.slice (some ⟨wr.heap.size+1,0,none⟩) 0 0) 0 [] from by
    have:=World.ownsRow_made (base:=wr.heap.size+1) (e:=9) (size:=1) (wr.alloc (.cells ([.string xs[k].key,.int .i64 xs[k].op,.slice pX xs[k].values.length pY]:List Value).toArray 158)) #[] 0 S' (Nat.zero_le _) S';rw [World.size_alloc] at this
    exact this)
   go_wp2_with (first
    | (at_builtin
       refine rW (o:=⟨some 20,_,_,_,_,_⟩) Ud J' J' _ _ J' _ (wr.heap.size+1) _ 0 [] HM.out J' xs[k].values pX pY _ (wO.ext (ak (ak (aj _) _) _)) J' O' O' S' ?_;intro v2 w2 ds2 G hrc hsub hown2 hg hat;go_must (obtain ⟨A2,c2,hv2⟩:=mY hown2)
       go_must (subst hv2)
       go_must (simp only [Nat.zero_add,List.nil_append] at hown2)
       go_must (have hb2:Below wr.heap.size wr w2:=lS (vP HM.out (Nat.le_succ _)) hg (ak (ak (aj _) _) _) (by simp;omega))
       go_must (have afr:oG w2 wr.heap.size [.string xs[k].key,.int .i64 xs[k].op,.slice pX xs[k].values.length pY]:=hbox.keep ((hg.block _ (by simp;omega) avf).trans (heap_alloc_old _ _ S')))
       go_must (have hrc2:jo w2 xs[k].values ds2 G:=hrc.frame (fun b hb=>hg.block b (hrc.lt b hb) (fun e=>by have:=(wO.lt b (hsub b hb));simp [Value.ownBlock] at e;omega)) hg.size)
       go_must (obtain ⟨A3,c3,G3,hv3,hO2⟩:=Own.of_flat P8 hown2 hrc2)
       go_must (simp only [Value.slice.injEq,true_and] at hv3)
       go_must (obtain ⟨rfl,rfl⟩:=hv3)
       go_must (have k0:=afr.cell (i:=0) (u:=.string xs[k].key) rfl)
       go_must (have k1:=afr.cell (i:=1) (u:=.int .i64 xs[k].op) rfl)
       go_must (have k2:=afr.cell (i:=2) (u:=.slice pX xs[k].values.length pY) rfl)
       go_must (have kl:=afr.lt)
       go_must (have kf:=afr.fz 2)
       go_must (have hOn:Own w2 (wr.heap.size+1) xs[k] [.string xs[k].key,.int .i64 xs[k].op,.slice A2 xs[k].values.length c2] G3:=Own.up (B':=wr.heap.size+1) (fun x:Need=>(x.key,x.op,x.values)) (Own.cons (c1:=[.string xs[k].key]) (rdStr _ _ (rV xO)) (Own.cons (c1:=[.int .i64 xs[k].op]) (jL _ _ hop1) hO2)) (Nat.le_refl _))
       go_must (have hOs:=hOn.setCell (p:=⟨wr.heap.size,2,none⟩) (Nat.lt_succ_self _) (.slice A2 xs[k].values.length c2))
       go_must (have hrow:(w2.setCell ⟨wr.heap.size,2,none⟩ (.slice A2 xs[k].values.length c2)).ownsRow w.heap.size 158 3 (.slice Av k cv) k ds:=EJ (mG HO.out hb2) (fun g hg=>by have:=(HO.out.lt g hg).2;omega))
       go_must (have hcs:aY (w2.setCell ⟨wr.heap.size,2,none⟩ (.slice A2 xs[k].values.length c2)) w.heap.size (xs.take k) ds F':=(hO.ext hb2).keep (fun y hy=>Below.heap_setCell _ _ _ _ (by have:=hO.lt y hy;dsimp only;omega)) aua)
       go_must (have hbS:Below wr.heap.size wr (w2.setCell ⟨wr.heap.size,2,none⟩ (.slice A2 xs[k].values.length c2)):=aC hb2 (Nat.le_refl _) _)
       go_must (have hbx:=afr.put 2 (.slice A2 xs[k].values.length c2))
       go_must (have HOS:=I' hOs)
       go_must (have HR:=I' hrow)
       go_must (have HC:=I' hcs)
       go_must (have HBS:=I' hbS)
       go_must (have hzz:=hbS.size)
       go_must (clear hOn hO2 hrc hrc2 hown2 hO hbox afr hg hat hb2 hOs hcs hbS))
    | (at_builtin
       refine uf (o:=⟨some 25,_,_,_,_,_⟩) apf J' _ _ J' _ _ _ _ _ hrow J' [.string xs[k].key,.int .i64 xs[k].op,.slice A2 xs[k].values.length c2] aue J' aub O' O' (by have:=HBL.out.size;omega) ?_
       intro v4 w4 hown4 hg4 Wy hat4))
   have hbl:=HBL.out;obtain ⟨hcs4,hne4⟩:=aY.afm (v':=v4) HR.out HC.out HN.out HOS.out (by have:=hbl.size;omega) (fun g hg=>by have:=(HO.out.lt g hg).2;omega) (fun y hy=>by have:=Y6.out y hy;omega) hg4 hat4;rw [← List.take_succ_eq_append_getElem hlt] at hcs4;exact ⟨⟨k+1,_,_,O',N',hown4,hcs4,hne4,lS (vP HR.out (Nat.le_refl _)) hg4 (ah hbl HBS.out) (by have:=hbl.size;omega)⟩,by simp [intOf];omega⟩
  ·have hkl:k = xs.length:=O';subst hkl;rw [List.take_length] at hO;obtain ⟨Ah,ch,hvh⟩:=mY hown;subst hvh;have HO:=I' hown;clear hown;go_wp2;go_ret
   exact ⟨_,ds,F',rfl,HO.out,hO,hne,hbl⟩
theorem alR (xs:List Need) (A:Option Addr) (c:Nat) (F:List Nat) (w:World) (h:Sl w xs A c F) (hl:(xs.length:Int)≤1048576) (hv:∀x∈xs,(x.values.length:Int)≤1048576) :
 Calls Tryz.prog 105 #[.slice A xs.length c] w fun e w'=>∃A' c' F',e = .returned (.slice A' xs.length c')∧Own w' w.heap.size xs [.slice A' xs.length c'] F'∧Below w.heap.size w w' :=
 (l15Copy_row xs A c F w h hl hv).mono fun e w' ⟨v,ds,F',he,hown,hO,hne,hb⟩=>by
  obtain ⟨Ah,ch,Gh,rfl,Xp⟩:=Own.oJ hown hO hne;exact ⟨_,_,_,he,Xp,hb⟩
end Go.Proofs.YtkbkikggodlbbaaGreat
