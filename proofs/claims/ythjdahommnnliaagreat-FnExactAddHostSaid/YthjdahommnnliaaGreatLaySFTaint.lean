/- slices.SortFunc at []Taint: the shelf's contract at this program. No condition. -/
import Derived.Test.YthjdahommnnliaaGreatRowE
import Derived.Test.YthjdahommnnliaaGreatNeedLess
import Derived.Test.YthjdahommnnliaaGreatLaw0
import Derived.Test.YthjdahommnnliaaGreatWordsS
import Derived.Test.YthjdahommnnliaaGreatLabelsOk
import Derived.Test.YthjdahommnnliaaGreatSelOk
import Derived.Test.YthjdahommnnliaaGreatTolsOk
import Derived.Test.YthjdahommnnliaaGreatSortTaintsP
import Derived.Test.YthjdahommnnliaaGreatUsed
import Derived.Maps.OwnOps
import Derived.Maps.Views
namespace Go.Proofs.YthjdahommnnliaaGreat
open Go.ChangeShapes Go.WideShapes Go.ChangeAt Go.RowKit Go.Shelf
def renTaint:Go.Shelf.Ren:={
 f:=fun x=>match x with
  | 6=>172
  | 14=>210
  | 15=>198
  | 20=>250
  | 21=>251
  | 22=>252
  | 23=>253
  | 24=>254
  | 25=>255
  | 26=>256
  | 27=>257
  | 28=>230
  | 29=>231
  | 46=>276
  | 47=>265
  | 48=>266
  | 49=>277
  | 50=>278
  | 57=>284
  | n=>n
 t:=fun x=>match x with
  | 0=>0
  | 3=>3
  | 4=>4
  | 5=>5
  | 9=>9
  | 22=>38
  | 24=>130
  | 25=>194
  | 39=>207
  | 45=>224
  | 46=>225
  | 50=>216
  | 53=>231
  | 55=>233
  | 66=>252
  | 70=>256
  | 76=>264
  | 77=>265
  | n=>n
 g:=fun n=>n }
theorem laySFTaint:SlLaysF0.n6 Tryz.prog renTaint:={
 mixed:=rfl
 f6:=⟨_,by kernel_rfl,Tryz.func172.trans (congrArg some rfl)⟩
 f14:=⟨_,by kernel_rfl,Tryz.func210.trans (congrArg some rfl)⟩
 f15:=Tryz.func198.trans (congrArg some rfl)
 f20:=⟨_,by kernel_rfl,Tryz.func250.trans (congrArg some rfl)⟩
 f21:=⟨_,by kernel_rfl,Tryz.func251.trans (congrArg some rfl)⟩
 f22:=⟨_,by kernel_rfl,Tryz.func252.trans (congrArg some rfl)⟩
 f23:=⟨_,by kernel_rfl,Tryz.func253.trans (congrArg some rfl)⟩
 f24:=⟨_,by kernel_rfl,Tryz.func254.trans (congrArg some rfl)⟩
 f25:=⟨_,by kernel_rfl,Tryz.func255.trans (congrArg some rfl)⟩
 f26:=⟨_,by kernel_rfl,Tryz.func256.trans (congrArg some rfl)⟩
 f27:=⟨_,by kernel_rfl,Tryz.func257.trans (congrArg some rfl)⟩
 f28:=Tryz.func230.trans (congrArg some rfl)
 f29:=Tryz.func231.trans (congrArg some rfl)
 f46:=⟨_,by kernel_rfl,Tryz.func276.trans (congrArg some rfl)⟩
 f47:=Tryz.func265.trans (congrArg some rfl)
 f48:=Tryz.func266.trans (congrArg some rfl)
 f49:=⟨_,by kernel_rfl,Tryz.func277.trans (congrArg some rfl)⟩
 f50:=⟨_,by kernel_rfl,Tryz.func278.trans (congrArg some rfl)⟩
 f57:=⟨_,by kernel_rfl,Tryz.func284.trans (congrArg some rfl)⟩
 t0:=Tryz.underlying0
 a0:=Tryz.isAgg0
 z0:=Tryz.sizeOf0
 v0:=Tryz.zeroValue0
 t3:=Tryz.underlying3
 a3:=Tryz.isAgg3
 z3:=Tryz.sizeOf3
 v3:=Tryz.zeroValue3
 t4:=Tryz.underlying4
 a4:=Tryz.isAgg4
 z4:=Tryz.sizeOf4
 v4:=Tryz.zeroValue4
 t5:=Tryz.underlying5
 a5:=Tryz.isAgg5
 z5:=Tryz.sizeOf5
 v5:=Tryz.zeroValue5
 t9:=Tryz.underlying9
 a9:=Tryz.isAgg9
 z9:=Tryz.sizeOf9
 v9:=Tryz.zeroValue9
 t22:=Tryz.underlying38
 a22:=Tryz.isAgg38
 z22:=Tryz.sizeOf38
 v22:=Tryz.zeroValue38
 t25:=Tryz.underlying194
 a25:=Tryz.isAgg194
 z25:=Tryz.sizeOf194
 v25:=Tryz.zeroValue194
 t39:=Tryz.underlying207
 a39:=Tryz.isAgg207
 z39:=Tryz.sizeOf207
 v39:=Tryz.zeroValue207
 t45:=Tryz.underlying224
 a45:=Tryz.isAgg224
 z45:=Tryz.sizeOf224
 v45:=Tryz.zeroValue224
 t46:=Tryz.underlying225
 a46:=Tryz.isAgg225
 z46:=Tryz.sizeOf225
 v46:=Tryz.zeroValue225
 t50:=Tryz.underlying216
 a50:=Tryz.isAgg216
 z50:=Tryz.sizeOf216
 v50:=Tryz.zeroValue216
 t53:=Tryz.underlying231
 a53:=Tryz.isAgg231
 z53:=Tryz.sizeOf231
 v53:=Tryz.zeroValue231
 t55:=Tryz.underlying233
 a55:=Tryz.isAgg233
 z55:=Tryz.sizeOf233
 v55:=Tryz.zeroValue233
 t66:=Tryz.underlying252
 a66:=Tryz.isAgg252
 z66:=Tryz.sizeOf252
 v66:=Tryz.zeroValue252
 t70:=Tryz.underlying256
 a70:=Tryz.isAgg256
 z70:=Tryz.sizeOf256
 v70:=Tryz.zeroValue256
 t76:=Tryz.underlying264
 a76:=Tryz.isAgg264
 z76:=Tryz.sizeOf264
 v76:=Tryz.zeroValue264
 t77:=Tryz.underlying265
 a77:=Tryz.isAgg265
 z77:=Tryz.sizeOf265
 v77:=Tryz.zeroValue265 }
theorem sortTaint (xs:List iU) (A:Option Addr) (c:Nat) (F:List Nat) (w:World) (B:Nat) (h:Own w B xs [.slice A xs.length c] F) (hB:B≤w.heap.size) (hl:(xs.length:Int)≤1048576) :
 Calls Tryz.prog 172 #[.slice A xs.length c,.func (.func 173) #[] #[]] w fun e w'=>e = .returned (.tuple #[])∧∃(ys:List iU) (F':List Nat),ys.Perm xs∧ys.Pairwise (fun x y=>decide (Qa (ao0 y x) < 0) = false)∧Own w' B ys [.slice A xs.length c] F'∧Below B w w' :=
 SortFunc_own (T:=iU) renTaint laySFTaint Tryz.isAgg130 Tryz.sizeOf130 (fun x y:iU=>Qa (ao0 x y)) totTaint 173 (enters_of Tryz.func173 (by kernel_rfl) rfl) (fun _:iU=>True) (fun x y cs ds F G W h h' o1 o2=>compareTaints_gr x y cs ds F G W h h') xs A c F w B h hB hl (fun _ _=>trivial)
end Go.Proofs.YthjdahommnnliaaGreat
namespace Go.Proofs.YthjdahommnnliaaGreat
open Go.ChangeShapes Go.WideShapes Go.ChangeAt Go.RowKit
set_option linter.unusedVariables false
set_option linter.unusedSimpArgs false
def GU (x:nI):Bool:=Qs x.name&&sD x.labels&&aeH x.needs&&Ya x.tolerances&&(decide (0≤x.cpu)&&decide (0≤x.mem))&&(decide (0≤x.rank)&&decide (x.rank≤1000))
set_option maxRecDepth 100000 in
set_option maxHeartbeats 2000000 in
theorem wH (x:nI) (cs:List Value) (F:List Nat) (w:World) (h:rd w x cs F) (hw:(x.wt:Int)≤1048576) :
 Calls Tryz.prog 97 #[.agg cs.toArray] w fun e w'=>e = .returned (.bool (GU x))∧Below w.heap.size w w':=by
 have hwx:x.wt = x.name.size+kL Label.wt x.labels+kL Need.wt x.needs+kL bH.wt x.tolerances:=rfl
 obtain ⟨hll,hls⟩:=sW (xs:=x.labels) (by omega)
 obtain ⟨hnl,VU⟩:=Aa (xs:=x.needs) (by omega)
 obtain ⟨htl,hts⟩:=FQ (xs:=x.tolerances) (by omega)
 have hns:(x.name.size:Int)≤1048576:=by omega
 have Zb:=Lib.hid hls
 have HNS:=Lib.hid VU
 have Ux:=Lib.hid hts
 clear hls hts VU
 have hr:=h
 obtain ⟨gu,gy,jw,oh,nT,wG,fA,fB,jY,hck,hF,hname,dO,vg,hmem,BJ,mX,eG⟩:=dL hr
 subst hck
 clear hr hF
 go_enter Tryz.func97,Tryz.ntmps97
 go_wp2_with (first
  | (go_at_call 169;refine (Ro x.name _ hns).mono ?_;rintro e w2 ⟨rfl,hb2⟩;obtain ⟨hc2,hf2⟩:=ay hb2;have hz2:w.heap.size < w2.heap.size:=(sq hb2.size))
  | (go_at_call 155;refine (Jv x.labels _ _ _ _ _ (dO.ext atS) rfl hll Zb.out).mono ?_;rintro e w3 ⟨rfl,hb3⟩;obtain ⟨hc3,hf3⟩:=ay hb3;have hz3:w.heap.size < w3.heap.size:=(sq hb3.size))
  | (go_at_call 164;refine (WI x.needs _ _ _ _ _ (mX.ext atS) rfl hnl HNS.out).mono ?_;rintro e w4 ⟨rfl,hb4⟩;obtain ⟨hc4,hf4⟩:=ay hb4;have Wy:w.heap.size < w4.heap.size:=(sq hb4.size))
  | (go_at_call 168;refine (RH x.tolerances _ _ _ _ _ (eG.ext atS) rfl htl Ux.out).mono ?_;rintro e w5 ⟨rfl,hb5⟩;obtain ⟨hc5,hf5⟩:=ay hb5;have Es:w.heap.size < w5.heap.size:=(sq hb5.size))
  | go_in)
 all_goals first
  | (go_ret;refine ⟨?_,atS⟩;refine congrArg (fun b=>Ending.returned (Value.bool b)) ?_;show (_:Bool) = _;(try clear hc2 hf2);(try clear hc3 hf3);(try clear hc4 hf4);(try clear hc5 hf5);unfold GU;first | (simp [*];done) | (simp [*];omega) | (simp_all;done) | (simp_all;omega))
  | skip
set_option maxRecDepth 100000 in
set_option maxHeartbeats 2000000 in
theorem yT (x:nI) (cs:List Value) (F:List Nat) (w:World) (h:rd w x cs F) (hw:(x.wt:Int)≤1048576) :
 Calls Tryz.prog 89 #[.agg cs.toArray] w fun e w'=>e = .returned (.bool (GU x))∧Below w.heap.size w w':=by
 have hwx:x.wt = x.name.size+kL Label.wt x.labels+kL Need.wt x.needs+kL bH.wt x.tolerances:=rfl
 obtain ⟨hll,hls⟩:=sW (xs:=x.labels) (by omega)
 obtain ⟨hnl,VU⟩:=Aa (xs:=x.needs) (by omega)
 obtain ⟨htl,hts⟩:=FQ (xs:=x.tolerances) (by omega)
 have hns:(x.name.size:Int)≤1048576:=by omega
 have Zb:=Lib.hid hls
 have HNS:=Lib.hid VU
 have Ux:=Lib.hid hts
 clear hls hts VU
 have hr:=h
 obtain ⟨gu,gy,jw,oh,nT,wG,fA,fB,jY,hck,hF,hname,dO,vg,hmem,BJ,mX,eG⟩:=dL hr
 subst hck
 clear hr hF
 go_enter Tryz.func89,Tryz.ntmps89
 go_wp2_with (first
  | (go_at_call 148;refine (Rq x.name _ hns).mono ?_;rintro e w2 ⟨rfl,hb2⟩;obtain ⟨hc2,hf2⟩:=ay hb2;have hz2:w.heap.size < w2.heap.size:=(sq hb2.size))
  | (go_at_call 142;refine (Jw x.labels _ _ _ _ _ (dO.ext atS) rfl hll Zb.out).mono ?_;rintro e w3 ⟨rfl,hb3⟩;obtain ⟨hc3,hf3⟩:=ay hb3;have hz3:w.heap.size < w3.heap.size:=(sq hb3.size))
  | (go_at_call 145;refine (WJ x.needs _ _ _ _ _ (mX.ext atS) rfl hnl HNS.out).mono ?_;rintro e w4 ⟨rfl,hb4⟩;obtain ⟨hc4,hf4⟩:=ay hb4;have Wy:w.heap.size < w4.heap.size:=(sq hb4.size))
  | (go_at_call 147;refine (RI x.tolerances _ _ _ _ _ (eG.ext atS) rfl htl Ux.out).mono ?_;rintro e w5 ⟨rfl,hb5⟩;obtain ⟨hc5,hf5⟩:=ay hb5;have Es:w.heap.size < w5.heap.size:=(sq hb5.size))
  | go_in)
 all_goals first
  | (go_ret;refine ⟨?_,atS⟩;refine congrArg (fun b=>Ending.returned (Value.bool b)) ?_;show (_:Bool) = _;(try clear hc2 hf2);(try clear hc3 hf3);(try clear hc4 hf4);(try clear hc5 hf5);unfold GU;first | (simp [*];done) | (simp [*];omega) | (simp_all;done) | (simp_all;omega))
  | skip
end Go.Proofs.YthjdahommnnliaaGreat
namespace Go.Proofs.YthjdahommnnliaaGreat
open Go.ChangeShapes Go.WideShapes Go.ChangeAt Go.RowKit
set_option linter.unusedVariables false
set_option linter.unusedSimpArgs false
theorem aqB (nm:ByteArray) (xs:List Placed):(F7 nm xs).length≤xs.length:=by unfold F7;rw [List.length_map];exact List.length_filter_le _ _
theorem alL {nm:ByteArray} {xs:List Placed} {a b:Int} (h:vU (F7 nm xs) = some (a,b)):KF nm xs = .tuple #[.int .i64 a,.int .i64 b,.int .i64 (F7 nm xs).length,.bool true]:=by unfold KF;rw [h]
theorem alM {nm:ByteArray} {xs:List Placed} (h:vU (F7 nm xs) = none):KF nm xs = .tuple #[.int .i64 0,.int .i64 0,.int .i64 0,.bool false]:=by unfold KF;rw [h]
def acL (x:aU) (h:Host):Bool:=match vU (F7 h.name x.au) with
 | none=>false
 | some (a,b)=>decide (a≤h.cpu)&&(decide (b≤h.mem)&&decide (((F7 h.name x.au).length:Int)≤h.slots))
def dY (x:aU) (h:Host):Bool:=Aj h&&acL x h
def dQ (a b:Host):Bool:=Op.bytesLess a.name.toList b.name.toList
def jT (x:aU) (p:Placed):Bool:=GU p.aS&&((decide (1≤p.seq)&&decide (p.seq≤x.next - 1))&&((p.on.toList == []) || decide (0≤pK (iM p.on) x.hosts)))
def dw (a b:Placed):Bool:=Op.bytesLess a.aS.name.toList b.aS.name.toList
def seenIn (xs:List Placed) (s:Int):Bool:=xs.any fun q=>q.seq == s
def DN (xs:List Placed) (k:Nat):Bool:=match xs[k]? with | none=>false | some p=>!(seenIn (xs.take k) p.seq)
theorem sG {xs:List Placed} {k:Nat} (h:k < xs.length):DN xs k = !(seenIn (xs.take k) xs[k].seq):=by unfold DN;rw [List.getElem?_eq_getElem h]
def Em (x:aU):Bool:=decide ((x.hosts.length:Int)≤8)&&(decide ((x.au.length:Int)≤12)&&((decide (1≤x.next)&&decide (x.next≤1000000000))&&zL x.weights.pack x.weights.spread x.weights.soft))
def iI (x:aU):Bool:=Em x&&((List.range x.hosts.length).all (rowAt (dY x) dQ x.hosts)&&((List.range x.au.length).all (rowAt (jT x) dw x.au)&&(List.range x.au.length).all (DN x.au)))
theorem oU {x:aU} (h:Em x = false):iI x = false:=by unfold iI;rw [h];rfl
theorem dW {x:aU} {k:Nat} (hk:k < x.hosts.length) (h:rowAt (dY x) dQ x.hosts k = false):iI x = false:=by unfold iI;rw [YF hk h];simp
theorem jP {x:aU} {k:Nat} (hk:k < x.au.length) (h:rowAt (jT x) dw x.au k = false):iI x = false:=by unfold iI;rw [YF hk h];simp
theorem DR {x:aU} {k:Nat} (hk:k < x.au.length) (h:DN x.au k = false):iI x = false:=by unfold iI;rw [YF hk h];simp
theorem OX {x:aU} (h0:Em x = true) (h1:∀j,j < x.hosts.length→rowAt (dY x) dQ x.hosts j = true) (h2:∀j,j < x.au.length→rowAt (jT x) dw x.au j = true) (h3:∀j,j < x.au.length→DN x.au j = true):iI x = true:=by
 unfold iI;rw [h0,YG h1,YG h2,YG h3];rfl
theorem pV {α:Type} {ok:α→Bool} {less:α→α→Bool} {xs:List α} {v:Bool} (h:0 < xs.length) (e:ok xs[0] = v):rowAt ok less xs 0 = v:=by rw [rowAt_zero h,e]
theorem nM {α:Type} {ok:α→Bool} {less:α→α→Bool} {xs:List α} {j:Nat} {v u:Bool} (h:j+1 < xs.length) (e:ok xs[j+1] = v) (e2:less xs[j] xs[j+1] = u):rowAt ok less xs (j+1) = (v&&u):=by rw [yS h,e,e2]
theorem alN {x:aU} {h:Host} (e:vU (F7 h.name x.au) = none):acL x h = false:=by unfold acL;rw [e]
theorem alO {x:aU} {h:Host} {a b:Int} (e:vU (F7 h.name x.au) = some (a,b)):acL x h = (decide (a≤h.cpu)&&(decide (b≤h.mem)&&decide (((F7 h.name x.au).length:Int)≤h.slots))):=by unfold acL;rw [e]
theorem E8 (x:aU) (h:Host):∃(a b n:Int) (okv:Bool),KF h.name x.au = .tuple #[.int .i64 a,.int .i64 b,.int .i64 n,.bool okv]∧acL x h = (okv&&(decide (a≤h.cpu)&&(decide (b≤h.mem)&&decide (n≤h.slots))))∧0≤n∧n≤x.au.length:=by
 cases e:vU (F7 h.name x.au) with
 | none=>exact ⟨0,0,0,false,alM e,by rw [alN e];rfl,by omega,by omega⟩
 | some ab =>
   obtain ⟨a,b⟩:=ab
   have:=aqB h.name x.au
   exact ⟨a,b,(F7 h.name x.au).length,true,alL e,by rw [alO e];rfl,by omega,by omega⟩
theorem Sl.Ec {w:World} {xs:List Placed} {A:Option Addr} {c:Nat} {F:List Nat} (h:Sl w xs A c F):∀p∈xs,I64 p.seq:=by
 intro p hp
 obtain ⟨k,hk,rfl⟩:=List.getElem_of_mem hp
 obtain ⟨b,o,ck,Fk,_,_,_,hr,_⟩:=h.get hk
 obtain ⟨gV,gW,lF,iR,iT,mV,dD,dF,iH,hck,hF,nY,iE,rF,rG,oZ,je,dN,hon,hseq⟩:=kE hr
 exact hseq
end Go.Proofs.YthjdahommnnliaaGreat
namespace Go.Proofs.YthjdahommnnliaaGreat
open Go.ChangeShapes Go.WideShapes Go.ChangeAt Go.RowKit
set_option linter.unusedVariables false
set_option linter.unusedSimpArgs false
open Go.Maps (Keyed)
theorem NY {H:Type} {P:Program} {w:World} {t k e:TypeId} {b n:Nat} {D:DataW H} (h:w.ownsMap P k (plainElem P e) b n D) (K:Keyed P k) (ht:P.underlying t = some (.map k e)) (he:P.underlying e = some .bool) (hz:(zeroValue e).run P w = .ok (.bool false) w)
 {key:Value} {kl:Lit} (hkey:keyOf P k key = some kl) {c:Bool} (hat:D.atKey kl (.lit (.bool false)) = .lit (.bool c)):(Instr.lookup t (.map (some b)) key false).run P w = .ok (.bool c) w:=by
 obtain ⟨v,ps,hrun,hv⟩:=h.lookup K ht hz (plainElem_bool he false) hkey
 rw [hat] at hv
 unfold plainElem at hv
 rw [he] at hv
 cases v <;> simp at hv
 obtain ⟨rfl,_⟩:=hv
 exact hrun
def anK (xs:List Placed):DataW Unit:=xs.foldl (fun D p=>D.put (.int .i64 p.seq) (.lit (.bool true))) (.map [])
theorem J3 (xs:List Placed) (p:Placed):anK (xs++[p]) = (anK xs).put (.int .i64 p.seq) (.lit (.bool true)):=by unfold anK;rw [List.foldl_append];rfl
theorem aqk (s:Int) (hs:I64 s):WideAt.IsKeyLit (.int .i64 s):=by
 simp [WideAt.IsKeyLit]
theorem adr (s:Int) (hs:I64 s):∀(xs:List Placed) (D:DataW Unit) (c:Bool),Maps.IsMap D→D.atKey (.int .i64 s) (.lit (.bool false)) = .lit (.bool c) →
 (xs.foldl (fun D p=>D.put (.int .i64 p.seq) (.lit (.bool true))) D).atKey (.int .i64 s) (.lit (.bool false)) = .lit (.bool (c || seenIn xs s))
 | [],D,c,_,h=>by simpa [seenIn] using h
 | p :: xs,D,c,hD,h=>by
   rw [List.foldl_cons]
   by_cases e:p.seq = s
   ·rw [adr s hs xs _ true (hD.put _ _) (by rw [e];exact Maps.atKey_put_same hD (aqk s hs) _ _)]
    simp [seenIn,e]
   ·rw [adr s hs xs _ c (hD.put _ _) (by rw [Maps.atKey_put_other (by intro h2;apply e;injection h2 with _ h3;exact h3.symm)];exact h)]
    have e2:(p.seq == s) = false:=by simpa using e
    simp [seenIn,e2]
theorem aeY (xs:List Placed) (s:Int) (hs:I64 s):(anK xs).atKey (.int .i64 s) (.lit (.bool false)) = .lit (.bool (seenIn xs s)):=by
 have h:=adr s hs xs (.map []) false Maps.isMap_empty rfl
 simpa [anK] using h
theorem Oy:Keyed Tryz.prog 3:=Maps.int_keyed Tryz.underlying3
theorem abl (w:World):(zeroValue 4).run Tryz.prog w = .ok (.bool false) w:=by kernel_rfl
theorem grown_of {w w':World} (hb:Below w.heap.size w w'):w.grownBy w' none:=⟨hb.os,hb.tape,hb.output,hb.size,fun k hk _=>hb.block k hk⟩
end Go.Proofs.YthjdahommnnliaaGreat
