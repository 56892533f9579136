/- Hosts and pods of small parts. No condition. -/
import Derived.Test.YtjahcnjmjahbaaaGreatHostOk
import Derived.Test.YtjahcnjmjahbaaaGreatSortLabelsP
namespace Go.Proofs.YtjahcnjmjahbaaaGreat
open Go.ChangeShapes Go.WideShapes Go.ChangeAt Go.RowKit
set_option linter.unusedVariables false
set_option linter.unusedSimpArgs false
structure U6 (x:az):Prop where
 ns:(x.name.size:Int)≤1048576
 ll:(x.labels.length:Int)≤1048576
 ls:∀l∈x.labels,(l.key.size:Int)≤1048576∧(l.value.size:Int)≤1048576
 tl:(x.aT.length:Int)≤1048576
 ts:∀l∈x.aT,(l.key.size:Int)≤1048576∧(l.value.size:Int)≤1048576
structure Xl (x:nI):Prop where
 ns:(x.name.size:Int)≤1048576
 ll:(x.labels.length:Int)≤1048576
 ls:∀l∈x.labels,(l.key.size:Int)≤1048576∧(l.value.size:Int)≤1048576
 nl:(x.ag.length:Int)≤1048576
 O0:∀l∈x.ag,VX l
 tl:(x.ae.length:Int)≤1048576
 ts:∀l∈x.ae,VY l
theorem U6.nZ (x:az) (hw:(x.wt:Int)≤1048576):U6 x:=by
 have fS:x.wt = x.name.size+kL ao.wt x.labels+kL iU.wt x.aT:=rfl;obtain ⟨ek,dB⟩:=sW (xs:=x.labels) J;obtain ⟨fv,dT⟩:=BH (xs:=x.aT) J;exact ⟨J,ek,dB,fv,dT⟩
theorem Xl.nZ (x:nI) (hw:(x.wt:Int)≤1048576):Xl x:=by
 have fS:x.wt = x.name.size+kL ao.wt x.labels+kL ba.wt x.ag+kL bH.wt x.ae:=rfl;obtain ⟨ek,dB⟩:=sW (xs:=x.labels) J;obtain ⟨mo,VU⟩:=Aa (xs:=x.ag) J;obtain ⟨fv,dT⟩:=FQ (xs:=x.ae) J;exact ⟨J,ek,dB,mo,VU,fv,dT⟩
theorem MR {s:ByteArray} {a:Int} (h:a < 0):(fG s a).2 < 0:=by rw [QA h];decide
theorem RP {s:ByteArray} {most a:Int} (hm:0≤most) (h:a < 0):jC s most a = (0,-1):=by
 unfold jC;rw [QA h,if_pos hm,if_pos (by decide)]
def xC {α:Type} (r:Int→α × Int) (s:ByteArray) (most:Int) (a:Int):List α × Int:=qX r (jC s most a).1.toNat [] (jC s most a).2
theorem UL {α:Type} {r:Int→α × Int} (hr:∀a,a < 0→(r a).2 < 0) {s:ByteArray} {most a:Int} (hm:0≤most) (h:a < 0):(xC r s most a).2 < 0:=by
 unfold xC;refine MP hr _ _ _ ?_;rw [RP hm h];decide
def JB (s:ByteArray) (a:Int):ba × Int :=
 (⟨(dP s a).1,(fG s (dP s a).2).1,(xC (dP s) s 4 (fG s (dP s a).2).2).1⟩,(xC (dP s) s 4 (fG s (dP s a).2).2).2)
theorem VK {s:ByteArray} {a:Int} (h:a < 0):(JB s a).2 < 0:=UL (fun a ha=>EU ha) (by decide) (MR (EU h))
def Zf (s:ByteArray) (a:Int):bH × Int :=
 (⟨(dP s a).1,(jC s 1 (dP s a).2).1 == 1,(dP s (jC s 1 (dP s a).2).2).1,(fG s (dP s (jC s 1 (dP s a).2).2).2).1⟩,(fG s (dP s (jC s 1 (dP s a).2).2).2).2)
theorem QK {s:ByteArray} {a:Int} (h:a < 0):(Zf s a).2 < 0:=by
 refine MR (EU ?_);rw [RP (by decide) (EU h)];decide
def Ll (s:ByteArray) (nm:ByteArray) (ls:List ao) (a:Int):nI × Int :=
 (⟨nm,ls,(fG s a).1,(fG s (fG s a).2).1,(fG s (fG s (fG s a).2).2).1,(xC (JB s) s 4 (fG s (fG s (fG s a).2).2).2).1,
   (xC (Zf s) s 4 (xC (JB s) s 4 (fG s (fG s (fG s a).2).2).2).2).1⟩,(xC (Zf s) s 4 (xC (JB s) s 4 (fG s (fG s (fG s a).2).2).2).2).2)
theorem MS {s nm:ByteArray} {ls:List ao} {a:Int} (h:a < 0):(Ll s nm ls a).2 < 0 :=
 UL (fun a ha=>QK ha) (by decide) (UL (fun a ha=>VK ha) (by decide) (MR (MR (MR h))))
def Ag (s:ByteArray) (a:Int):nI × Int:=Ll s (dP s a).1 (iF s (dP s a).2).1 (iF s (dP s a).2).2
def Dl (s:ByteArray) (a:Int):nI × Int:=((Ag s a).1,if GU (Ag s a).1 = true then (Ag s a).2 else -1)
def Lj:nI:=⟨⟨#[]⟩,[],0,0,0,[],[]⟩
def CP (s:ByteArray) (a:Int):nI × Int:=if (Dl s a).2 < 0 then (Lj,-1) else Dl s a
theorem aqB (nm:ByteArray) (xs:List ai):(F7 nm xs).length≤xs.length:=by unfold F7;rw [List.length_map];exact List.length_filter_le _ _
theorem alL {nm:ByteArray} {xs:List ai} {a b:Int} (h:vU (F7 nm xs) = some (a,b)):KF nm xs = .tuple #[.int .i64 a,.int .i64 b,.int .i64 (F7 nm xs).length,.bool true]:=by unfold KF;rw [h]
theorem alM {nm:ByteArray} {xs:List ai} (h:vU (F7 nm xs) = none):KF nm xs = .tuple #[.int .i64 0,.int .i64 0,.int .i64 0,.bool false]:=by unfold KF;rw [h]
def Bm (x:aU) (h:az):Bool:=match vU (F7 h.name x.O) with
 | none=>false
 | some (a,b)=>decide (a≤h.ax)&&(decide (b≤h.mem)&&decide (((F7 h.name x.O).length:Int)≤h.ar))
def dY (x:aU) (h:az):Bool:=Aj h&&Bm x h
def dQ (a b:az):Bool:=Op.bytesLess a.name.toList b.name.toList
def jT (x:aU) (p:ai):Bool:=GU p.aS&&((decide (1≤p.seq)&&decide (p.seq≤x.next - 1))&&((p.on.toList == []) || decide (0≤pK (iM p.on) x.Z)))
def dw (a b:ai):Bool:=Op.bytesLess a.aS.name.toList b.aS.name.toList
def cF (xs:List ai) (s:Int):Bool:=xs.any fun q=>q.seq == s
def DN (xs:List ai) (k:Nat):Bool:=match xs[k]? with | none=>false | some p=>!(cF (xs.take k) p.seq)
theorem sG {xs:List ai} {k:Nat} (h:k < xs.length):DN xs k = !(cF (xs.take k) xs[k].seq):=by unfold DN;rw [List.getElem?_eq_getElem h]
def Em (x:aU):Bool:=decide ((x.Z.length:Int)≤8)&&(decide ((x.O.length:Int)≤12)&&((decide (1≤x.next)&&decide (x.next≤1000000000))&&zL x.weights.pack x.weights.af x.weights.an))
def iI (x:aU):Bool:=Em x&&((List.range x.Z.length).all (bB (dY x) dQ x.Z)&&((List.range x.O.length).all (bB (jT x) dw x.O)&&(List.range x.O.length).all (DN x.O)))
theorem oU {x:aU} (h:Em x = false):iI x = false:=by unfold iI;rw [h];rfl
theorem dW {x:aU} {k:Nat} (hk:k < x.Z.length) (h:bB (dY x) dQ x.Z k = false):iI x = false:=by unfold iI;rw [YF hk h];simp
theorem jP {x:aU} {k:Nat} (hk:k < x.O.length) (h:bB (jT x) dw x.O k = false):iI x = false:=by unfold iI;rw [YF hk h];simp
theorem DR {x:aU} {k:Nat} (hk:k < x.O.length) (h:DN x.O k = false):iI x = false:=by unfold iI;rw [YF hk h];simp
theorem OX {x:aU} (h0:Em x = true) (h1:∀j,j < x.Z.length→bB (dY x) dQ x.Z j = true) (h2:∀j,j < x.O.length→bB (jT x) dw x.O j = true) (h3:∀j,j < x.O.length→DN x.O j = true):iI x = true:=by
 unfold iI;rw [h0,YG h1,YG h2,YG h3];rfl
theorem pV {α:Type} {ok:α→Bool} {less:α→α→Bool} {xs:List α} {v:Bool} (h:0 < xs.length) (e:ok xs[0] = v):bB ok less xs 0 = v:=by rw [bR h,e]
theorem nM {α:Type} {ok:α→Bool} {less:α→α→Bool} {xs:List α} {j:Nat} {v u:Bool} (h:j+1 < xs.length) (e:ok xs[j+1] = v) (e2:less xs[j] xs[j+1] = u):bB ok less xs (j+1) = (v&&u):=by rw [yS h,e,e2]
theorem alN {x:aU} {h:az} (e:vU (F7 h.name x.O) = none):Bm x h = false:=by unfold Bm;rw [e]
theorem Tj {x:aU} {h:az} {a b:Int} (e:vU (F7 h.name x.O) = some (a,b)):Bm x h = (decide (a≤h.ax)&&(decide (b≤h.mem)&&decide (((F7 h.name x.O).length:Int)≤h.ar))):=by unfold Bm;rw [e]
theorem E8 (x:aU) (h:az):∃(a b n:Int) (sT:Bool),KF h.name x.O = .tuple #[.int .i64 a,.int .i64 b,.int .i64 n,.bool sT]∧Bm x h = (sT&&(decide (a≤h.ax)&&(decide (b≤h.mem)&&decide (n≤h.ar))))∧0≤n∧n≤x.O.length:=by
 cases e:vU (F7 h.name x.O) with
 | none=>exact ⟨0,0,0,false,alM e,by rw [alN e];rfl,J,J⟩
 | some ab =>obtain ⟨a,b⟩:=ab;have:=aqB h.name x.O;exact ⟨a,b,(F7 h.name x.O).length,true,alL e,by rw [Tj e];rfl,J,J⟩
theorem Sl.Ec {w:World} {xs:List ai} {A:Option Addr} {c:Nat} {F:List Nat} (h:Sl w xs A c F):∀p∈xs,bi p.seq:=by
 intro p hp;obtain ⟨k,hk,rfl⟩:=List.getElem_of_mem hp;obtain ⟨b,o,ck,Fk,_,_,_,hr,_⟩:=h.get hk;obtain ⟨gV,gW,lF,iR,iT,mV,dD,dF,iH,aw,hF,nY,iE,rF,rG,oZ,je,dN,eO,hseq⟩:=kE hr;exact hseq
end Go.Proofs.YtjahcnjmjahbaaaGreat
namespace Go.Proofs.YtjahcnjmjahbaaaGreat
open Go.ChangeShapes Go.WideShapes Go.ChangeAt Go.RowKit
set_option linter.unusedVariables false
set_option linter.unusedSimpArgs false
open Go.Maps (Keyed)
theorem NY {H:Type} {P:Program} {w:World} {t k e:TypeId} {b n:Nat} {D:DataW H} (h:w.ownsMap P k (plainElem P e) b n D) (K:Keyed P k) (ht:P.underlying t = some (.map k e)) (he:P.underlying e = some .bool) (hz:(zeroValue e).run P w = .ok (.bool false) w)
 {key:Value} {kl:Lit} (ca:keyOf P k key = some kl) {c:Bool} (cI:D.atKey kl (.lit (.bool false)) = .lit (.bool c)):(Instr.lookup t (.map (some b)) key false).run P w = .ok (.bool c) w:=by
 obtain ⟨v,ps,hrun,hv⟩:=h.lookup K ht hz (plainElem_bool he false) ca;rw [cI] at hv;unfold plainElem at hv;rw [he] at hv;cases v <;> simp at hv
 obtain ⟨rfl,_⟩:=hv;exact hrun
def Ew (xs:List ai):DataW Unit:=xs.foldl (fun D p=>D.put (.int .i64 p.seq) (.lit (.bool true))) (.map [])
theorem J3 (xs:List ai) (p:ai):Ew (xs++[p]) = (Ew xs).put (.int .i64 p.seq) (.lit (.bool true)):=by unfold Ew;rw [List.foldl_append];rfl
theorem aqk (s:Int) (hs:bi s):WideAt.IsKeyLit (.int .i64 s):=by
 simp [WideAt.IsKeyLit]
theorem UF (s:Int) (hs:bi s):∀(xs:List ai) (D:DataW Unit) (c:Bool),Maps.IsMap D→D.atKey (.int .i64 s) (.lit (.bool false)) = .lit (.bool c) →
 (xs.foldl (fun D p=>D.put (.int .i64 p.seq) (.lit (.bool true))) D).atKey (.int .i64 s) (.lit (.bool false)) = .lit (.bool (c || cF xs s))
 | [],D,c,_,h=>by simpa [cF] using h
 | p :: xs,D,c,hD,h=>by
   rw [List.foldl_cons];by_cases e:p.seq = s
   ·rw [UF s hs xs _ true (hD.put _ _) (by rw [e];exact Maps.atKey_put_same hD (aqk s hs) _ _)];simp [cF,e]
   ·rw [UF s hs xs _ c (hD.put _ _) (by rw [Maps.atKey_put_other (by intro h2;apply e;injection h2 with _ h3;exact h3.symm)];exact h)];have e2:(p.seq == s) = false:=(by simpa using e);simp [cF,e2]
theorem aeY (xs:List ai) (s:Int) (hs:bi s):(Ew xs).atKey (.int .i64 s) (.lit (.bool false)) = .lit (.bool (cF xs s)):=by
 have h:=UF s hs xs (.map []) false Maps.isMap_empty rfl;simpa [Ew] using h
theorem Oy:Keyed Tryz.prog 3:=Maps.int_keyed Tryz.underlying3
theorem abl (w:World):(zeroValue 4).run Tryz.prog w = .ok (.bool false) w:=by kernel_rfl
theorem grown_of {w w':World} (hb:Below w.heap.size w w'):w.grownBy w' none:=⟨hb.os,hb.tape,hb.output,hb.size,fun k hk _=>hb.block k hk⟩
end Go.Proofs.YtjahcnjmjahbaaaGreat
namespace Go.Proofs.YtjahcnjmjahbaaaGreat
open Go.ChangeShapes Go.WideShapes Go.ChangeAt Go.RowKit
set_option linter.unusedVariables false
set_option linter.unusedSimpArgs false
theorem aCs {α:Type} {ok:α→Bool} {less:α→α→Bool} (tr:∀a b c,less a b = true→less b c = true→less a c = true) (xs:List α) :
 (List.range xs.length).all (bB ok less xs) = true↔(∀x∈xs,ok x = true)∧xs.Pairwise fun a b=>less a b = true:=by
 constructor
 ·intro h;have h':∀j,j < xs.length→bB ok less xs j = true:=fun j hj=>List.all_eq_true.1 h j (List.mem_range.2 hj);constructor
  ·intro x hx;obtain ⟨j,hj,rfl⟩:=List.getElem_of_mem hx;have:=h' j hj;exact JN
  ·rw [List.pairwise_iff_getElem];intro i j hi hj pG;obtain ⟨d,rfl⟩:∃d,j = i+d+1:=⟨j - i - 1,J⟩;clear pG;induction d with
   | zero=>have:=h' (i+1) hj;rw [yS (j:=i) hj,Bool.and_eq_true] at this;exact this.2
   | succ d ih =>have h1:=ih J;have:=h' (i+d+1+1) hj;rw [yS (j:=i+d+1) hj,Bool.and_eq_true] at this;exact tr _ _ _ h1 this.2
 ·intro ⟨h1,h2⟩;refine YG fun j hj=>?_;cases j with
  | zero=>rw [bR hj];exact h1 _ (List.getElem_mem hj)
  | succ i=>rw [yS hj,Bool.and_eq_true];exact ⟨h1 _ (List.getElem_mem hj),List.pairwise_iff_getElem.1 h2 i (i+1) J hj J⟩
theorem aEk (xs:List ai):(List.range xs.length).all (DN xs) = true↔xs.Pairwise fun a b=>a.seq≠b.seq:=by
 rw [List.pairwise_iff_getElem];constructor
 ·intro h i j hi hj pG e;have h1:=List.all_eq_true.1 h j (List.mem_range.2 hj);rw [sG hj] at h1;have h2:cF (xs.take j) xs[j].seq = true:=by
   unfold cF;rw [List.any_eq_true];exact ⟨xs[i],List.mem_take_iff_getElem.2 ⟨i,J,rfl⟩,by simp [e]⟩
  rw [h2] at h1;cases h1
 ·intro h;refine YG fun j hj=>?_;rw [sG hj];have h2:cF (xs.take j) xs[j].seq = false:=by
   unfold cF;rw [List.any_eq_false];intro q hq;obtain ⟨i,hi,rfl⟩:=List.mem_take_iff_getElem.1 hq;have:=h i j J hj J;simpa using this
  rw [h2];rfl
theorem ee {a b:ByteArray} (h:a.toList = b.toList):a = b:=(PW a b).1 (by unfold kn;rw [h];simp)
theorem toList_nil {a:ByteArray} : (a.toList == []) = true↔a = ⟨#[]⟩:=by
 constructor
 ·intro h;refine ee ?_;have h1:a.toList = []:=by simpa using h
  rw [h1,ByteArray.toList_eq]
 ·intro h;subst h;rw [ByteArray.toList_eq];rfl
theorem LS {α:Type} {p:α→Bool} : ∀{xs:List α},0≤pK p xs↔∃x∈xs,p x = true
 | []=>by simp [pK]
 | x :: xs=>by
   have ih:=LS (p:=p) (xs:=xs);unfold pK;by_cases h:p x = true
   ·simp [h]
   ·rw [if_neg h];by_cases h1:pK p xs < 0
    ·rw [if_pos h1];constructor
     ·intro hh;omega
     ·intro ⟨y,hy,hp⟩;rcases List.mem_cons.1 hy with rfl | hy
      ·exact absurd hp h
      ·exact absurd (ih.2 ⟨y,hy,hp⟩) J
    ·rw [if_neg h1];obtain ⟨y,hy,hp⟩:=ih.1 J;exact ⟨fun _=>⟨y,List.mem_cons_of_mem _ hy,hp⟩,fun _=>by omega⟩
theorem LV {α:Type} {p:α→Bool} : ∀{xs:List α} {k:Nat},pK p xs = k→∃hk:k < xs.length,p xs[k] = true∧∀j (hj:j < k),p (xs[j]'J) = false
 | [],k,h=>by simp only [pK] at h;omega
 | x :: xs,k,h=>by
   unfold pK at h;by_cases hp:p x = true
   ·rw [if_pos hp] at h;obtain rfl:k = 0:=by omega
    exact ⟨S',hp,fun j hj=>absurd hj J⟩
   ·rw [if_neg hp] at h;by_cases h1:pK p xs < 0
    ·rw [if_pos h1] at h;omega
    ·rw [if_neg h1] at h;obtain ⟨i,rfl⟩:∃i,k = i+1:=⟨k - 1,J⟩;obtain ⟨hk,h2,h3⟩:=LV (p:=p) (xs:=xs) (k:=i) J;refine ⟨by simpa using hk,by simpa using h2,fun j hj=>?_⟩;cases j with
     | zero=>simpa using hp
     | succ j=>simpa using h3 j J
theorem LX {α:Type} {p:α→Bool} {xs:List α} (h:0≤pK p xs):pK p xs = (pK p xs).toNat:=by omega
theorem Uo:∀{xs:List Int} {s:Int},(∀x∈xs,0≤x)→0≤s→s+xs.sum≤9223372036854775807→GZ xs s = some (s+xs.sum)
 | [],s,_,_,_=>by simp [GZ]
 | x :: xs,s,h,hs,hm=>by
   have hx:=h x (List.mem_cons_self ..);have h2:∀y∈xs,0≤y:=fun y hy=>h y (List.mem_cons_of_mem _ hy);have h3:0≤xs.sum:=by
    clear hm h;induction xs with
    | nil=>simp
    | cons a l ih=>simp only [List.sum_cons];have:=h2 a (List.mem_cons_self ..);have:=ih (fun y hy=>h2 y (List.mem_cons_of_mem _ hy));omega
   simp only [List.sum_cons] at hm ⊢;have e:GX s x = some (s+x):=(by unfold GX;rw [if_neg J]);simp only [GZ,e];rw [Uo h2 J J];congr 1;omega
theorem Up:∀{xs:List Int} {s t:Int},GZ xs s = some t→s≤9223372036854775807→t = s+xs.sum∧t≤9223372036854775807
 | [],s,t,h,hs=>by simp only [GZ,Option.some.injEq] at h;subst h;simp;omega
 | x :: xs,s,t,h,hs=>by
   simp only [GZ] at h;cases e:GX s x with
   | none=>rw [e] at h;cases h
   | some m =>
     rw [e] at h;unfold GX at e;split at e
     ·cases e
     ·rename_i hn;cases e
      have:=Up h J;simp only [List.sum_cons];omega
def ju (f:nI→Int) (nm:ByteArray) (xs:List ai):Int:=((F7 nm xs).map f).sum
theorem Ep (nm:ByteArray) (xs ys:List ai):F7 nm (xs++ys) = F7 nm xs++F7 nm ys:=by unfold F7;rw [List.filter_append,List.map_append]
theorem wJ {nm:ByteArray} {p:ai} {xs:List ai} (h:j7 nm p = false):F7 nm (p :: xs) = F7 nm xs:=by unfold F7;rw [List.filter_cons,if_neg (by rw [h];simp)]
theorem Uq {nm:ByteArray} {p:ai} {xs:List ai} (h:j7 nm p = true):F7 nm (p :: xs) = p.aS :: F7 nm xs:=by unfold F7;rw [List.filter_cons,if_pos h];rfl
theorem Ur {nm:ByteArray} {p:ai} : j7 nm p = true↔nm≠⟨#[]⟩∧p.on = nm:=by
 unfold j7;rw [Bool.and_eq_true,Bool.not_eq_true'];constructor
 ·intro ⟨h1,h2⟩;exact ⟨fun e=>(by rw [toList_nil.2 e] at h1;cases h1),ee Rc⟩
 ·intro ⟨h1,h2⟩;refine ⟨?_,by rw [h2];simp⟩;cases h:nm.toList == [] with
  | false=>rfl
  | true=>exact absurd (toList_nil.1 h) h1
theorem Er {nm:ByteArray} {p:ai} (h:p.on = ⟨#[]⟩∨p.on≠nm):j7 nm p = false:=by
 cases e:j7 nm p with
 | false=>rfl
 | true =>
   obtain ⟨h1,h2⟩:=Ur.1 e;rcases h with h | h
   ·exact absurd (h2.symm.trans h) h1
   ·exact absurd h2 h
theorem P6 {p:nI} (h:GU p = true):0≤p.ax∧0≤p.mem:=by
 unfold GU at h;simp only [Bool.and_eq_true,decide_eq_true_eq] at h;exact h.1.2
theorem aDS {α:Type} {f:α→Int} {xs ys:List α} (h:xs.Sublist ys) (hn:∀y∈ys,0≤f y):(xs.map f).sum≤(ys.map f).sum:=by
 induction h with
 | slnil=>simp
 | cons a h ih =>have:=ih (fun y hy=>hn y (List.mem_cons_of_mem _ hy));have:=hn a (List.mem_cons_self ..);exact p'
 | cons_cons a h ih =>have:=ih (fun y hy=>hn y (List.mem_cons_of_mem _ hy));exact p'
theorem Us {nm:ByteArray} {xs ys:List ai} (h:xs.Sublist ys):(F7 nm xs).Sublist (F7 nm ys):=(h.filter _).map _
theorem P7 {nm:ByteArray} {xs:List ai} {p:nI} (h:p∈F7 nm xs):∃q∈xs,p = q.aS:=by
 unfold F7 at h;obtain ⟨q,hq,rfl⟩:=List.mem_map.1 h;exact ⟨q,(List.mem_filter.1 hq).1,rfl⟩
def ij (xs:List ai) (h:az):Prop:=ju nI.ax h.name xs≤9223372036854775807∧ju nI.mem h.name xs≤9223372036854775807∧ju nI.ax h.name xs≤h.ax∧ju nI.mem h.name xs≤h.mem∧((F7 h.name xs).length:Int)≤h.ar
theorem aAz {nm:ByteArray} {xs:List ai} (hp:∀p∈xs,GU p.aS = true) (h1:ju nI.ax nm xs≤9223372036854775807) (h2:ju nI.mem nm xs≤9223372036854775807):vU (F7 nm xs) = some (ju nI.ax nm xs,ju nI.mem nm xs):=by
 unfold vU ju at *
 have e1:=Uo (xs:=(F7 nm xs).map nI.ax) (s:=0) (fun v hv=>by
  obtain ⟨p,hpm,rfl⟩:=List.mem_map.1 hv;obtain ⟨q,hq,rfl⟩:=P7 hpm
  exact (P6 (hp q hq)).1) J J
 have e2:=Uo (xs:=(F7 nm xs).map nI.mem) (s:=0) (fun v hv=>by
  obtain ⟨p,hpm,rfl⟩:=List.mem_map.1 hv;obtain ⟨q,hq,rfl⟩:=P7 hpm
  exact (P6 (hp q hq)).2) J J
 rw [e1,e2];simp
theorem aCt {nm:ByteArray} {xs:List ai} {a b:Int} (h:vU (F7 nm xs) = some (a,b)):a = ju nI.ax nm xs∧b = ju nI.mem nm xs∧a≤9223372036854775807∧b≤9223372036854775807:=by
 unfold vU at h;cases e1:GZ ((F7 nm xs).map nI.ax) 0 with
 | none=>rw [e1] at h;cases h
 | some m =>
   cases e2:GZ ((F7 nm xs).map nI.mem) 0 with
   | none=>rw [e1,e2] at h;cases h
   | some n =>rw [e1,e2] at h;simp only [Option.some.injEq,Prod.mk.injEq] at h;obtain ⟨rfl,rfl⟩:=h;have h1:=Up e1 J;have h2:=Up e2 J;unfold ju;omega
theorem azO {x:aU} {h:az} (hp:∀p∈x.O,GU p.aS = true):Bm x h = true↔ij x.O h:=by
 constructor
 ·intro hf;cases e:vU (F7 h.name x.O) with
  | none=>rw [alN e] at hf;cases hf
  | some ab =>obtain ⟨a,b⟩:=ab;rw [Tj e] at hf;simp only [Bool.and_eq_true,decide_eq_true_eq] at hf;obtain ⟨rfl,rfl,h3,h4⟩:=aCt e;exact ⟨h3,h4,hf.1,hf.2.1,hf.2.2⟩
 ·intro ⟨h1,h2,h3,h4,h5⟩;rw [Tj (aAz hp h1 h2)];simp only [Bool.and_eq_true,decide_eq_true_eq];exact ⟨h3,h4,h5⟩
structure cc (x:aU):Prop where
 h8:x.Z.length≤8
 rY:x.O.length≤12
 n1:1≤x.next
 n2:x.next≤1000000000
 wt:zL x.weights.pack x.weights.af x.weights.an = true
 gd:∀h∈x.Z,Aj h = true
 vb:∀h∈x.Z,ij x.O h
 hs:x.Z.Pairwise fun a b=>dQ a b = true
 pm:∀p∈x.O,GU p.aS = true
 td:∀p∈x.O,1≤p.seq∧p.seq≤x.next - 1
 te:∀p∈x.O,p.on = ⟨#[]⟩∨∃h∈x.Z,h.name = p.on
 ps:x.O.Pairwise fun a b=>dw a b = true
 pf:x.O.Pairwise fun a b=>a.seq≠b.seq
theorem ayw (a b c:az) (h1:dQ a b = true) (h2:dQ b c = true):dQ a c = true:=LD _ _ _ h1 h2
theorem axm (a b c:ai) (h1:dw a b = true) (h2:dw b c = true):dw a c = true:=LD _ _ _ h1 h2
theorem Cf {nm:ByteArray} {h:az} : iM nm h = true↔h.name = nm:=PW _ _
theorem axF {nm:ByteArray} {p:ai} : CG nm p = true↔p.aS.name = nm:=PW _ _
theorem Cg (x:aU):iI x = true↔cc x:=by
 unfold iI Em;simp only [Bool.and_eq_true,decide_eq_true_eq];rw [aCs ayw,aCs axm,aEk];have P':∀p,jT x p = true↔GU p.aS = true∧(1≤p.seq∧p.seq≤x.next - 1)∧(p.on = ⟨#[]⟩∨∃h∈x.Z,h.name = p.on):=by
  intro p;unfold jT;simp only [Bool.and_eq_true,Bool.or_eq_true,decide_eq_true_eq,toList_nil,LS,Cf]
 constructor
 ·rintro ⟨⟨a,b,⟨c,d⟩,e⟩,⟨f,g⟩,⟨h,i⟩,j⟩;have hp:∀p∈x.O,GU p.aS = true:=fun p hp=>((P' p).1 (h p hp)).1;refine ⟨J,J,c,d,e,fun y hy=>?_,fun y hy=>?_,g,hp,fun p hp=>((P' p).1 (h p hp)).2.1,fun p hp=>((P' p).1 (h p hp)).2.2,i,j⟩
  ·have:=f y hy;unfold dY at this;rw [Bool.and_eq_true] at this;exact this.1
  ·have:=f y hy;unfold dY at this;rw [Bool.and_eq_true] at this;exact (azO hp).1 this.2
 ·intro G;refine ⟨⟨by have:=G.h8;omega,by have:=G.rY;omega,⟨G.n1,G.n2⟩,G.wt⟩,⟨fun y hy=>?_,G.hs⟩,⟨fun p hp=>(P' p).2 ⟨G.pm p hp,G.td p hp,G.te p hp⟩,G.ps⟩,G.pf⟩;unfold dY;rw [Bool.and_eq_true];exact ⟨G.gd y hy,(azO G.pm).2 (G.vb y hy)⟩
theorem ij.sub {xs ys:List ai} {h:az} (hr:ij ys h) (hs:xs.Sublist ys) (hp:∀p∈ys,GU p.aS = true):ij xs h:=by
 obtain ⟨h1,h2,h3,h4,h5⟩:=hr;have a:=aDS (f:=nI.ax) (Us (nm:=h.name) hs) (fun y hy=>by obtain ⟨q,hq,rfl⟩:=P7 hy;exact (P6 (hp q hq)).1);have b:=aDS (f:=nI.mem) (Us (nm:=h.name) hs) (fun y hy=>by obtain ⟨q,hq,rfl⟩:=P7 hy;exact (P6 (hp q hq)).2);have c:=(Us (nm:=h.name) hs).length_le;unfold ij ju at *;omega
theorem ij.same {xs ys:List ai} {h:az} (hr:ij ys h) (he:F7 h.name xs = F7 h.name ys):ij xs h:=by unfold ij ju at *;rw [he];exact hr
theorem aJ2 {s:ByteArray} (h:Qs s = true):s≠⟨#[]⟩:=by
 intro e;subst e;unfold Qs at h;simp only [Bool.and_eq_true,decide_eq_true_eq] at h;exact absurd h.1.1.1 (by decide)
theorem Uu {h:az} (hr:Aj h = true):Qs h.name = true:=by
 unfold Aj at hr;simp only [Bool.and_eq_true] at hr;exact hr.1.1.1.1
theorem aFP {h:az} (hr:Aj h = true):0≤h.ax∧0≤h.mem∧1≤h.ar:=by
 unfold Aj at hr;simp only [Bool.and_eq_true,decide_eq_true_eq] at hr;exact ⟨hr.1.2.1,hr.1.2.2,hr.2.1⟩
theorem Uv {a b:ByteArray} (h:Op.bytesLess a.toList b.toList = true):a≠b:=by
 intro e;subst e;rw [LC] at h;cases h
end Go.Proofs.YtjahcnjmjahbaaaGreat
