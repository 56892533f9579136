/- SameNeeds, SameLabels, of the program and of the reference. No condition. -/
import Derived.Test.YtjahcnjmjahbaaaGreatCopyH
import Derived.Shelf.Spec.SlicesInsert
import Derived.Lib.AppendZerosOnto
import Derived.Shelf.GgSortFunc.RowK
namespace Go.Proofs.YtjahcnjmjahbaaaGreat
open Go.ChangeShapes Go.WideShapes Go.ChangeAt Go.RowKit
set_option linter.unusedVariables false
set_option linter.unusedSimpArgs false
set_option maxHeartbeats 2000000
set_option maxRecDepth 100000
theorem QF (xs ys:List aE) (A B:Option Addr) (c d:Nat) (F G:List Nat) (w:World) (h:Sl w xs A c F) (h':Sl w ys B d G) (AG:∀l∈xs,(l.values.length:Int)<=1048576) (hys:∀l∈ys,(l.values.length:Int)<=1048576) :
 Calls Tryz.prog 42 #[.slice A xs.length c,.slice B ys.length d] w λe w'=>e = .returned (.bool (same yI xs ys))/\Below w.heap.size w w':=by
 have hc:=h.cap;unfold maxLen at hc;obtain ⟨cO,bX⟩:=hc;have hd:=h'.cap;unfold maxLen at hd;obtain ⟨xm,Ib⟩:=hd;by_cases hl:xs.length = ys.length
 ·have HL:=I hl;have bi:((xs.length:Int) != (ys.length:Int)) = false:=by simp [hl]
  clear hl;go_enter Tryz.func42,Tryz.ntmps42;go_wp2;go_loopw [5] (λi wr=>∃k:Nat,k<=xs.length/\i = .int .i64 k/\Hid (same yI (xs.take k) (ys.take k) = true)/\Below w.heap.size w wr) (λi _=>xs.length - (intOf i).toNat)
  case atStart=>exact ⟨0,Nat.zero_le _,rfl,by show _ = true;simp [same],aj _⟩
  case round =>
   obtain ⟨k,hk,rfl,Heq,ax⟩:=hrel;by_cases am:k < xs.length
   ·obtain ⟨b,o,ck,Fk,rfl,o9,hbs,hr,bm,hc⟩:=(h.ext ax).get am;have fp:k < ys.length:=(by rw [<- HL.out];exact am);obtain ⟨b',o',TY,Xw,rfl,Ht,hbs',cJ,zQ,hc'⟩:=(h'.ext ax).get fp;obtain ⟨pX,pY,KG,aq,rfl,xO,kv,wO⟩:=og hr;subst aq;obtain ⟨qO,qP,KL,aq,rfl,vC,hop2,zS⟩:=og cJ;subst aq;obtain ⟨q0,q1,q2⟩:=iX 3 hc;obtain ⟨p0,p1,p2⟩:=iX 3 hc';clear hc hc';have TW:=AG xs[k] (List.getElem_mem ..);have tz:=hys ys[k] (List.getElem_mem ..);have SU:=I (λwq hq=>TN xs[k] ys[k] _ _ _ _ wq (aJ hr hq) (aJ cJ hq) TW tz);have VF:=I (λwq hq=>TN ys[k] xs[k] _ _ _ _ wq (aJ cJ hq) (aJ hr hq) tz TW);have Js:=amW xs[k] ys[k];clear AG hys;cases h1:nD xs[k] ys[k] with
    | true =>have he:yI xs[k] ys[k] = false:=(by rw [<- Js,h1];rfl);have HS:=I (nP (k+1) Mx HL.out);rw [h1] at SU;clear Js he h1;exact NX
    | false =>
      cases h2:nD ys[k] xs[k] with
      | true =>have he:yI xs[k] ys[k] = false:=(by rw [<- Js,h1,h2];rfl);have HS:=I (nP (k+1) Mx HL.out);rw [h1] at SU;rw [h2] at VF;clear Js he h1 h2;exact NX
      | false =>
        have he:yI xs[k] ys[k] = true:=(by rw [<- Js,h1,h2];rfl);have HS:=I (show same yI (xs.take (k+1)) (ys.take (k+1)) = true by rw [iC am fp,Heq.out,he];rfl);rw [h1] at SU;rw [h2] at VF;clear Js he h1 h2;go_wp2_with fail
        refine aF wr U' U' xD ?_
        repeat ((first | refine aG J' ?_ | refine aH _ J' Lq ?_);simp only [Act.put,pz])
        refine aN ?_;intro wn hn;replace hn:=hn.out;go_wp2;exact ⟨⟨k+1,J,N',HS,ah ax hn⟩,by simp [intOf];omega⟩
   ·exact Mv
 ·have bi:((xs.length:Int) != (ys.length:Int)) = true:=by simp;omega
  have HL:=I (qN (eq:=yI) hl);clear hl;go_enter Tryz.func42,Tryz.ntmps42;go_wp2;go_ret
  exact ⟨by rw [HL.out];rfl,aj _⟩
structure Cq {β:Type} (c:β->β->Int):Prop where
 refl:∀x,c x x = 0
 fq:∀x y,c y x = - c x y
 trans:∀x y z,c x y<=0->c y z<=0->c x z<=0
section
variable {β γ:Type} {c d:β->β->Int}
theorem Cq.OG (C:Cq c) {x y z:β} (h:c x y < 0) (k:c y z<=0):c x z < 0:=by
 have h1:=C.trans x y z J k;apply Classical.byContradiction;intro hn;have h2:c z x<=0:=by rw [C.fq x z];omega
 have h3:=C.trans y z x k h2;rw [C.fq x y] at h3;omega
theorem Cq.lt2 (C:Cq c) {x y z:β} (h:c x y<=0) (k:c y z < 0):c x z < 0:=by
 have h1:=C.trans x y z h J;apply Classical.byContradiction;intro hn;have h2:c z x<=0:=by rw [C.fq x z];omega
 have h3:=C.trans z x y h2 h;rw [C.fq y z] at h3;omega
theorem Cq.at (C:Cq c) (f:γ->β):Cq λx y=>c (f x) (f y):=⟨λx=>C.refl _,λx y=>C.fq _ _,λx y z=>C.trans _ _ _⟩
theorem Cq.lex (C:Cq c) (D:Cq d):Cq λx y=>if c x y = 0 then d x y else c x y:=by
 refine ⟨λx=>by simp only [C.refl,if_true,D.refl],λx y=>?_,λx y z=>?_⟩
 ·have:=C.fq x y;by_cases h:c x y = 0
  ·simp only [h,show c y x = 0 by omega,if_true,D.fq x y]
  ·simp only [if_neg h];rw [if_neg (show ¬c y x = 0 by omega)];exact this
 ·intro h k;by_cases h1:c x y = 0
  ·by_cases h2:c y z = 0
   ·have h3:=C.trans x y z J J;have h4:=C.trans z y x (by rw [C.fq y z];omega) (by rw [C.fq x y];omega);rw [C.fq x z] at h4;simp only [h1,h2,if_true] at h k;simp only [show c x z = 0 by omega,if_true];exact D.trans _ _ _ h k
   ·simp only [if_neg h2] at k;have:=C.lt2 (x:=x) (y:=y) (z:=z) J J;simp only [if_neg (show ¬c x z = 0 by omega)];omega
  ·simp only [if_neg h1] at h;by_cases h2:c y z = 0
   ·have:=C.OG (x:=x) (y:=y) (z:=z) J J;simp only [if_neg (show ¬c x z = 0 by omega)];omega
   ·simp only [if_neg h2] at k;have:=C.OG (x:=x) (y:=y) (z:=z) J k;simp only [if_neg (show ¬c x z = 0 by omega)];omega
theorem Cq.WR (C:Cq c) (h:∀x y,c x y = 0->x = y):zo λx y=>decide (c x y < 0):=by
 refine ⟨λx=>by simp [C.refl],λx y z a b=>?_,λx y a b=>h x y ?_⟩
 ·simp only [decide_eq_true_eq] at *;exact C.OG a J
 ·simp only [decide_eq_false_iff_not] at *;have:=C.fq x y;omega
theorem Cq.cM (C:Cq c):sS λx y=>decide (c x y < 0):=by
 refine ⟨λx=>by simp [C.refl],λx y z a b=>?_,λx y z a b=>?_⟩
 ·simp only [decide_eq_true_eq] at *;exact C.OG a J
 ·simp only [decide_eq_false_iff_not] at *;have h1:=C.fq x y;have h2:=C.fq y z;have h3:=C.fq x z;have:=C.trans z y x J J;omega
end
theorem WS:Cq Lib.compareBytes:=by
 refine ⟨λx=>(J5 x x).2 rfl,λx y=>TK x y,?_⟩;intro a;induction a with
 | nil=>intro b c _ _;cases c <;> simp [Lib.compareBytes]
 | cons x a ih =>
   intro b c h k;cases b with
   | nil=>simp [Lib.compareBytes] at h
   | cons y b =>
     cases c with
     | nil=>simp [Lib.compareBytes] at k
     | cons z c =>
       unfold Lib.compareBytes at h k |-;simp only [UInt8.lt_iff_toNat_lt] at *;by_cases h1:x.toNat < y.toNat
       ·rw [if_pos h1] at h;by_cases k1:y.toNat < z.toNat
        ·rw [if_pos J];omega
        ·rw [if_neg k1] at k;by_cases k2:z.toNat < y.toNat
         ·rw [if_pos k2] at k;omega
         ·rw [if_pos J];omega
       ·rw [if_neg h1] at h;by_cases h2:y.toNat < x.toNat
        ·rw [if_pos h2] at h;omega
        ·rw [if_neg h2] at h;by_cases k1:y.toNat < z.toNat
         ·rw [if_pos J];omega
         ·rw [if_neg k1] at k;by_cases k2:z.toNat < y.toNat
          ·rw [if_pos k2] at k;omega
          ·rw [if_neg k2] at k;rw [if_neg J,if_neg J];exact ih b c h k
theorem WX:Cq Lib.compareInt:=by
 refine ⟨λx=>?_,λx y=>?_,λx y z=>?_⟩ <;> unfold Lib.compareInt <;> (repeat' split) <;> omega
theorem D3:Cq rv:=by
 refine ⟨λx=>by cases x <;> decide,λx y=>by cases x <;> cases y <;> decide,λx y z=>by cases x <;> cases y <;> cases z <;> decide⟩
theorem D4:Cq λa b:ByteArray=>Lib.compareBytes a.data.toList b.data.toList:=WS.at λa:ByteArray=>a.data.toList
theorem fr {a b:ByteArray} (h:Lib.compareBytes a.data.toList b.data.toList = 0):a = b:=by
 have:=(J5 _ _).1 h;cases a;cases b
 simpa using this
theorem int_eq {a b:Int} (h:Lib.compareInt a b = 0):a = b:=by
 unfold Lib.compareInt at h;repeat' split at h
 all_goals omega
theorem aGj {a b:Bool} (h:rv a b = 0):a = b:=by cases a <;> cases b <;> first | rfl | (exfalso;revert h;decide)
theorem WY:∀xs ys:List ByteArray,qW ys xs = - qW xs ys
 | [],[]=>rfl
 | [],_ :: _=>rfl
 | _ :: _,[]=>rfl
 | x :: xs,y :: ys=>by
   have h1:=D4.fq x y;have h2:=WY xs ys;unfold qW;rw [h1,h2];by_cases h:Lib.compareBytes x.data.toList y.data.toList = 0
   ·rw [if_pos h,if_pos J]
   ·rw [if_neg h,if_neg J]
theorem pd:∀{xs ys:List ByteArray},qW xs ys = 0->xs = ys
 | [],[],_=>rfl
 | [],_ :: _,h=>by simp [qW] at h
 | _ :: _,[],h=>by simp [qW] at h
 | x :: xs,y :: ys,h=>by
   unfold qW at h;by_cases h1:Lib.compareBytes x.data.toList y.data.toList = 0
   ·rw [if_pos h1] at h;rw [fr h1,pd h]
   ·rw [if_neg h1] at h;exact absurd h h1
theorem azl:∀xs ys zs:List ByteArray,qW xs ys<=0->qW ys zs<=0->qW xs zs<=0
 | [],_,[],_,_=>by simp [qW]
 | [],_,_ :: _,_,_=>by simp [qW]
 | _ :: _,[],_,h,_=>by simp [qW] at h
 | _ :: _,_ :: _,[],_,k=>by simp [qW] at k
 | x :: xs,y :: ys,z :: zs,h,k=>by
   have C:=D4;have ih:=azl xs ys zs;unfold qW at h k |-;by_cases h1:Lib.compareBytes x.data.toList y.data.toList = 0
   ·rw [if_pos h1] at h;have e:=fr h1;subst e;by_cases h2:Lib.compareBytes x.data.toList z.data.toList = 0
    ·rw [if_pos h2] at k |-;exact ih h k
    ·rw [if_neg h2] at k |-;exact k
   ·rw [if_neg h1] at h;by_cases h2:Lib.compareBytes y.data.toList z.data.toList = 0
    ·have e:=fr h2;subst e;rw [if_neg h1];exact h
    ·rw [if_neg h2] at k;have h3:Lib.compareBytes x.data.toList z.data.toList < 0:=C.OG (x:=x) (y:=y) (z:=z) (show Lib.compareBytes x.data.toList y.data.toList < 0 by omega) k;rw [if_neg J];omega
theorem D5:Cq qW:=⟨λxs=>by have:=WY xs xs;omega,WY,azl⟩
theorem sU (a b c:Int):Qa [a,b,c] = if a = 0 then (if b = 0 then c else b) else a:=by
 unfold Qa Qa Qa Qa;by_cases h:c = 0
 ·simp [h]
 ·simp [h]
theorem OH (a b c d:Int):Qa [a,b,c,d] = if a = 0 then (if b = 0 then (if c = 0 then d else c) else b) else a:=by
 rw [show Qa [a,b,c,d] = if a = 0 then Qa [b,c,d] else a from rfl,sU]
theorem aGk:Cq λx y:iU=>Qa (ru x y):=by
 have:=(D4.at iU.key).lex ((D4.at iU.value).lex (WX.at iU.effect));simpa only [ru,sU] using this
theorem OI:Cq λx y:bH=>Qa (qa x y):=by
 have:=(D4.at bH.key).lex ((D3.at bH.equal).lex ((D4.at bH.value).lex (WX.at bH.effect)));simpa only [qa,OH] using this
theorem aC2:Cq λx y:aE=>Qa (W9 x y):=by
 have:=(D4.at aE.key).lex ((WX.at aE.op).lex (D5.at aE.values));simpa only [W9,sU] using this
theorem WZ:zo λx y:iU=>decide (Qa (ru x y) < 0):=aGk.WR λx y h=>by
 simp only [ru,sU] at h;repeat' split at h
 ·rename_i h1 h2;cases x;cases y
  simp only at *;rw [fr h1,fr h2,int_eq h]
 ·contradiction
 ·contradiction
theorem W0:zo λx y:bH=>decide (Qa (qa x y) < 0):=OI.WR λx y h=>by
 simp only [qa,OH] at h;repeat' split at h
 ·rename_i h1 h2 h3;cases x;cases y
  simp only at *;rw [fr h1,aGj h2,fr h3,int_eq h]
 ·contradiction
 ·contradiction
 ·contradiction
theorem aDI:zo λx y:aE=>decide (Qa (W9 x y) < 0):=aC2.WR λx y h=>by
 simp only [W9,sU] at h;repeat' split at h
 ·rename_i h1 h2;cases x;cases y
  simp only at *;rw [fr h1,int_eq h2,pd h]
 ·contradiction
 ·contradiction
structure Cc (w wk:World) (cs zs os:List Value):Prop where
 box:oG wk w.heap.size cs
 rb:oG wk (w.heap.size+1) zs
 ob:oG wk (w.heap.size+1+1) os
 below:Below w.heap.size w wk
section
variable {w wk w':World} {cs zs os:List Value}
theorem Cc.new (w:World) (cs zs os:List Value) (t:TypeId):Cc w (((w.alloc (.cells cs.toArray t)).alloc (.cells zs.toArray t)).alloc (.cells os.toArray t)) cs zs os :=
 have h:=(Cp.new w cs zs t t).ext (ak (aj _) (.cells os.toArray t))
 ⟨h.box,h.rb,(by have:=oG.new ((w.alloc (.cells cs.toArray t)).alloc (.cells zs.toArray t)) os t;rw [World.size_alloc,World.size_alloc] at this;exact this),h.below⟩
theorem Cc.ext (h:Cc w wk cs zs os) (hb:Below wk.heap.size wk w'):Cc w w' cs zs os:=⟨h.box.ext hb,h.rb.ext hb,h.ob.ext hb,ah h.below hb⟩
theorem Cc.put (h:Cc w wk cs zs os) (i:Nat) (u:Value):Cc w (wk.setCell ⟨w.heap.size+1+1,i,none⟩ u) cs zs (os.set i u):=⟨h.box.br J i u,h.rb.br J i u,h.ob.put i u,aC h.below bv u⟩
theorem Cc.br (h:Cc w wk cs zs os) {c:Nat} (hc:w.heap.size+1+1 < c) (i:Nat) (u:Value):Cc w (wk.setCell ⟨c,i,none⟩ u) cs zs os:=⟨h.box.br J i u,h.rb.br J i u,h.ob.br J i u,aC h.below bv u⟩
theorem Cc.lt (h:Cc w wk cs zs os):w.heap.size+1+1 < wk.heap.size:=h.ob.lt
theorem Cc.grown {row:Option Nat} (h:Cc w wk cs zs os) (hg:wk.grownBy w' row) (hr:∀q,row = some q->w.heap.size+1+1 < q):Cc w w' cs zs os :=
 ⟨h.box.keep (hg.block _ h.box.lt rq),h.rb.keep (hg.block _ h.rb.lt rq),h.ob.keep (hg.block _ h.ob.lt rq),
  ⟨hg.os.trans h.below.os,hg.tape.trans h.below.tape,hg.output.trans h.below.output,Nat.le_trans h.below.size hg.size,λi hi=>(hg.block i On rq).trans (h.below.block i hi)⟩⟩
end
theorem oG.grown {w w':World} {g:Nat} {cs:List Value} {row:Option Nat} (h:oG w g cs) (hg:w.grownBy w' row) (hr:∀q,row = some q->q≠g):oG w' g cs:=h.keep (hg.block _ h.lt (λe=>hr g e.symm rfl))
theorem ai.aju {α:Type} [bd α] {w w':World} {B B2:Nat} {x:α} {cs:List Value} {F:List Nat} {row:Option Nat} (h:ai w B x cs F) (hg:w.grownBy w' row) (hF:∀y∈F,y < B2) (hr:∀q,row = some q->B2<=q):ai w' B x cs F :=
 h.keep (λy hy=>hg.block y (h.lt y hy) awM) hg.size
theorem ai.apg {w:World} {B:Nat} {p:nI} {nm:ByteArray} {n:Int} {ps:List Value} {G:List Nat} (h:ai w B p ps G) (h1:nm.size<=maxLen) (h2:aR n):ai w B (⟨p,nm,n⟩:ag) (ps++[.string nm,.int .i64 n]) G:=by
 refine ai.up (B':=B) (λx:ag=>(x.aS,x.on,x.seq)) ?_ (Nat.le_refl _);have h3:ai w (B+w.heap.size) (nm,n) ([.string nm]++[.int .i64 n]) []:=ai.cons (rdStr w nm (rV h1)) (ai.flat (jL w n h2));have h4:=ai.pair h h3 J (λb hb=>by have:=h.lt b hb;omega);simpa using h4
theorem ai.alU {w:World} {B B3 B4:Nat} {H:List az} {P:List ag} {n p q f:Int} {Ah Ap:Option Addr} {ch cp:Nat} {Gh Gp:List Nat} (h:ai w B3 H [.slice Ah H.length ch] Gh) (k:ai w B4 P [.slice Ap P.length cp] Gp) (hB:B<=B3) (lP:B3<=B4) (hG:∀y∈Gh,y < B4) (hn:aR n) (hp:aR p) (hq:aR q) (hf:aR f) :
 ai w B (⟨H,P,n,⟨p,q,f⟩⟩:aU) [.slice Ah H.length ch,.slice Ap P.length cp,.int .i64 n,.int .i64 p,.int .i64 q,.int .i64 f] (Gh++Gp):=by
 refine ai.up (B':=B3) (λx:aU=>(x.aa,x.O,x.next,x.weights)) ?_ hB;have h5:ai w (B4+w.heap.size) (⟨p,q,f⟩:rZ) ([.int .i64 p]++([.int .i64 q]++[.int .i64 f])) []:=by exact M2
 have h6:=ai.cons (jL w n hn) h5;have h7:=ai.pair h (ai.pair k h6 J (λb hb=>by have:=k.lt b hb;omega)) lP hG;simpa using h7
theorem apR:(Tryz.prog.info? 38).map (λi=>(i.zero,i.size,i.bytes)) = some (some ((.agg #[.string ⟨#[]⟩,.slice none 0 0,.int .i64 0,.int .i64 0,.int .i64 0,.slice none 0 0])),6,88):=by kernel_rfl
theorem Yd:DL Tryz.prog 24 38 ((.agg #[.string ⟨#[]⟩,.slice none 0 0,.int .i64 0,.int .i64 0,.int .i64 0,.slice none 0 0])) 6 88:=⟨Tryz.underlying24,apR,rfl,J⟩
theorem alV:(Tryz.prog.info? 48).map (λi=>(i.zero,i.size,i.bytes)) = some (some ((.agg #[.string ⟨#[]⟩,.slice none 0 0,.int .i64 0,.int .i64 0,.int .i64 0,.slice none 0 0,.slice none 0 0,.string ⟨#[]⟩,.int .i64 0])),9,136):=by kernel_rfl
theorem YH:DL Tryz.prog 25 48 ((.agg #[.string ⟨#[]⟩,.slice none 0 0,.int .i64 0,.int .i64 0,.int .i64 0,.slice none 0 0,.slice none 0 0,.string ⟨#[]⟩,.int .i64 0])) 9 136:=⟨Tryz.underlying25,alV,rfl,J⟩
theorem adD (x:aU) (hw:(x.wt:Int)<=1048576):(x.aa.length:Int)<=1048576/\(x.O.length:Int)<=1048576/\Hid (∀h∈x.aa,(h.labels.length:Int)<=1048576/\(h.aT.length:Int)<=1048576) /\
 Hid (∀p∈x.O,(p.aS.labels.length:Int)<=1048576/\(p.aS.af.length:Int)<=1048576/\(p.aS.ae.length:Int)<=1048576/\∀y∈p.aS.af,(y.values.length:Int)<=1048576):=by
 have fv:x.wt = kL az.wt x.aa+kL ag.wt x.O:=rfl;have h1:=gJ az.wt x.aa;have h2:=gJ ag.wt x.O;refine ⟨J,J,I λh hh=>?_,I λp hp=>?_⟩
 ·have h3:h.name.size+kL ao.wt h.labels+kL iU.wt h.aT<=kL az.wt x.aa:=Bq (f:=az.wt) hh;have h4:=gJ ao.wt h.labels;have h5:=gJ iU.wt h.aT;constructor <;> omega
 ·have h3:(p.aS.name.size+kL ao.wt p.aS.labels+kL aE.wt p.aS.af+kL bH.wt p.aS.ae)+p.on.size<=kL ag.wt x.O:=Bq (f:=ag.wt) hp;have h4:=gJ ao.wt p.aS.labels;have h5:=gJ aE.wt p.aS.af;have h6:=gJ bH.wt p.aS.ae;refine ⟨J,J,J,λy hy=>?_⟩;have h7:y.key.size+kL ByteArray.size y.values<=kL aE.wt p.aS.af:=Bq (f:=aE.wt) hy;have h8:=gJ ByteArray.size y.values;omega
def fL {α:Type} (i:Nat) (x:α) (xs:List α):List α:=xs.take i++x :: xs.drop i
theorem CD {α:Type} (i:Nat) (x:α) (xs:List α):(fL i x xs).length = xs.length+1:=by simp [fL];omega
theorem aY.ins {α:Type} [bd α] {w:World} {B:Nat} {xs:List α} {x:α} {ds cs:List Value} {F G:List Nat} (h:aY w B xs ds F) (hx:ai w B x cs G) (hd:∀y∈F,y∉G) (i:Nat) (hi:i<=xs.length) :
 ∃F',aY w B (fL i x xs) (ds.take (i * bd.size α)++(cs++ds.drop (i * bd.size α))) F'/\(∀y∈F',y∈F∨y∈G):=by
 obtain ⟨hr,hn,hb,hp⟩:=h;rw [<- List.take_append_drop i xs] at hr;obtain ⟨d1,d2,F1,F2,rfl,rfl,h1,h2⟩:=jo.fy hr;have hl:d1.length = i * bd.size α:=by rw [h1.len,List.length_take,Nat.min_eq_left hi]
 rw [<- hl,List.take_left,List.drop_left];have gv:=List.nodup_append.1 hn;have bm:∀y∈F1++(G++F2),y∈F1++F2∨y∈G:=λy hy=>by
  simp only [List.mem_append] at hy |-;rcases hy with hy | hy | hy <;> simp [hy]
 refine ⟨F1++(G++F2),⟨h1.append ⟨cs,d2,G,F2,rfl,rfl,hx.rd,h2⟩,?_,λy hy=>?_,λy hy=>?_⟩,bm⟩
 ·rw [List.nodup_append,List.nodup_append];refine ⟨gv.1,⟨hx.nodup,gv.2.1,λa ha b d8 e=>hd b (List.mem_append_right _ d8) (e ▸ ha)⟩,λa ha b d8 e=>?_⟩;rcases List.mem_append.1 d8 with d8 | d8
  ·exact hd a (List.mem_append_left _ ha) (e ▸ d8)
  ·exact gv.2.2 a ha b d8 e
 ·rcases bm y hy with hy | hy
  ·exact hb y hy
  ·exact hx.base y hy
 ·rcases bm y hy with hy | hy
  ·exact hp y hy
  ·exact hx.plain y hy
theorem ai.SM {α:Type} [bd α] {w:World} {B:Nat} {xs:List α} {ds:List Value} {F:List Nat} {e:TypeId} {v:Value} (h0:w.ownsRow B e (bd.size α) v xs.length ds) (h:aY w B xs ds F) (bN:∀g,v.ownBlock = some g->g∉F):∃A c G,v = .slice A xs.length c/\ai w B xs [.slice A xs.length c] G/\∀y∈G,y∈F∨v.ownBlock = some y:=by
 exact Lt
theorem aEj:(Tryz.prog.info? 38).map (λi=>(i.zero,i.size,i.bytes)) = some (some (.agg #[.string ⟨#[]⟩,.slice none 0 0,.int .i64 0,.int .i64 0,.int .i64 0,.slice none 0 0]),6,88):=by kernel_rfl
theorem nQ:DL Tryz.prog 24 38 (.agg #[.string ⟨#[]⟩,.slice none 0 0,.int .i64 0,.int .i64 0,.int .i64 0,.slice none 0 0]) 6 88:=⟨Tryz.underlying24,aEj,rfl,J⟩
theorem aCp:(Tryz.prog.info? 48).map (λi=>(i.zero,i.size,i.bytes)) = some (some (.agg #[.string ⟨#[]⟩,.slice none 0 0,.int .i64 0,.int .i64 0,.int .i64 0,.slice none 0 0,.slice none 0 0,.string ⟨#[]⟩,.int .i64 0]),9,136):=by kernel_rfl
theorem nL:DL Tryz.prog 25 48 (.agg #[.string ⟨#[]⟩,.slice none 0 0,.int .i64 0,.int .i64 0,.int .i64 0,.slice none 0 0,.slice none 0 0,.string ⟨#[]⟩,.int .i64 0]) 9 136:=⟨Tryz.underlying25,aCp,rfl,J⟩
def gD (x:ao):List Value:=[.string x.key,.string x.value]
def gm (x:iU):List Value:=[.string x.key,.string x.value,.int .i64 x.effect]
def gh (x:bH):List Value:=[.string x.key,.bool x.equal,.string x.value,.int .i64 x.effect]
section
variable {β:Type} {row:β->List Value} {S:Nat}
theorem vm (hS:∀x,(row x).length = S):∀(D:List β) (k:Nat) (x:β),D[k]? = some x->∀(j:Nat) (u:Value),(row x)[j]? = some u->(D.flatMap row)[k * S+j]? = some u
 | [],_,_,h,_,_,_=>by simp at h
 | r :: rs,0,x,h,j,u,hj=>by
   simp at h;subst h;rw [List.flatMap_cons,Nat.zero_mul,Nat.zero_add,List.getElem?_append_left (List.getElem?_eq_some_iff.1 hj).1];exact hj
 | r :: rs,k+1,x,h,j,u,hj=>by
   rw [List.getElem?_cons_succ] at h;have hr:=hS r;have hk:(k+1) * S+j = k * S+j+S:=(by rw [Nat.succ_mul];omega);rw [List.flatMap_cons,List.getElem?_append_right J,hr,show (k+1) * S+j - S = k * S+j by omega];exact vm hS rs k x h j u hj
theorem lL (hS:∀x,(row x).length = S):∀D:List β,(D.flatMap row).length = D.length * S
 | []=>by simp
 | r :: rs=>by rw [List.flatMap_cons,List.length_append,hS,lL hS rs,List.length_cons,Nat.succ_mul];omega
theorem oc (h1:∀x,∀u∈row x,u.oneCell' = true) (D:List β):∀u∈D.flatMap row,u.oneCell' = true:=λu hu=>by
 obtain ⟨x,_,hx⟩:=List.mem_flatMap.1 hu;exact h1 x u hx
theorem XQ [bd β] {w:World} {B e g cap:Nat} (hd:bd.size β = S) (D:List β) (h:w.ownsRow B e S (.slice (some ⟨g,0,none⟩) D.length cap) D.length (D.flatMap row)) (hr:∀x∈D,rd w x (row x) []):∃A c G,Value.slice (some ⟨g,0,none⟩) D.length cap = .slice A D.length c/\ai w B D [.slice A D.length c] G:=by
 subst hd;have de:∀D:List β,(∀x∈D,rd w x (row x) [])->jo w D (D.flatMap row) []:=λD=>by
  induction D with
  | nil=>intro _;exact ⟨rfl,rfl⟩
  | cons x D ih=>intro hD;exact ⟨row x,D.flatMap row,[],[],rfl,rfl,hD x (List.mem_cons_self ..),ih λy hy=>hD y (List.mem_cons_of_mem _ hy)⟩
 exact Nr
end
theorem zG (x:ao):∀u∈gD x,u.oneCell' = true:=by intro u hu;simp only [gD,List.mem_cons,List.not_mem_nil,or_false] at hu;rcases hu with rfl | rfl <;> rfl
theorem zF (x:iU):∀u∈gm x,u.oneCell' = true:=by intro u hu;simp only [gm,List.mem_cons,List.not_mem_nil,or_false] at hu;rcases hu with rfl | rfl | rfl <;> rfl
theorem zE (x:bH):∀u∈gh x,u.oneCell' = true:=by intro u hu;simp only [gh,List.mem_cons,List.not_mem_nil,or_false] at hu;rcases hu with rfl | rfl | rfl | rfl <;> rfl
end Go.Proofs.YtjahcnjmjahbaaaGreat
