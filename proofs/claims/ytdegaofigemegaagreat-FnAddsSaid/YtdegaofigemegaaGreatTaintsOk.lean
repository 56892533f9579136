/- TaintsOk, of the program and of the reference. No condition. -/
import Derived.Test.YtdegaofigemegaaGreatCmp2
import Derived.Test.YtdegaofigemegaaGreatWordsS
namespace Go.Proofs.YtdegaofigemegaaGreat
open Go.ChangeShapes Go.WideShapes Go.ChangeAt Go.RowKit
set_option linter.unusedVariables false
set_option linter.unusedSimpArgs false
set_option maxHeartbeats 2000000
set_option maxRecDepth 100000
def La (xs:List iU):Bool:=oS Dp qo 4 xs
theorem ZK (xs:List iU) (A:Option Addr) (n c:Nat) (F:List Nat) (w:World) (h:Sl w xs A c F) (hn:n = xs.length) (hl:(xs.length:Int)<=1048576) (cN:∀l∈xs,(l.key.size:Int)<=1048576/\(l.value.size:Int)<=1048576) :
 Calls Tryz.prog 66 #[.slice A n c] w λe w'=>e = .returned (.bool (La xs))/\Below w.heap.size w w':=by
 subst hn;have Eo:=I cN;clear cN;go_enter Tryz.func66,Tryz.ntmps66;go_wp2_with fail
 go_loopw [7] (λi wr=>∃k:Nat,k<=xs.length/\i = .int .i64 k/\Hid (∀j,j < k->rowAt Dp qo xs j = true)/\Below w.heap.size w wr) (λi _=>xs.length - (intOf i).toNat)
 case atStart=>exact ⟨0,Nat.zero_le _,rfl,(λj hj=>by omega),bJ⟩
 case round =>
  obtain ⟨k,hk,rfl,hall,aM⟩:=hrel;by_cases ap:k < xs.length
  ·obtain rfl | ⟨j,rfl⟩:k = 0∨∃j,k = j+1:=by cases k with | zero=>exact .inl rfl | succ j=>exact .inr ⟨j,rfl⟩
   ·obtain ⟨b,o,ck,Fk,rfl,o9,hbs,hr,bi,hc⟩:=(Sl.ext (w':=wr) (A:=A) (c:=c) h aM).get ap;obtain ⟨ar,su,b5,kP,lD⟩:=oK hr;subst ar;obtain ⟨q0,q1,q2⟩:=oa 3 hc;clear hc;simp only [Nat.zero_mul,Nat.add_zero] at q0 q1 q2;have cS:=(Eo.out xs[0] (List.getElem_mem ..)).1;have cO:=(Eo.out xs[0] (List.getElem_mem ..)).2;subst su;have cc:=hr;cases h1:Dp xs[0]
    all_goals
     have hp:=bR (ok:=Dp) (less:=qo) ap;rw [h1] at hp;try simp only [Bool.false_and,Bool.and_false,Bool.and_true,Bool.and_self] at hp
     change rowAt Dp qo xs _ = _ at hp;have H1:=I h1
     first
      | have HN:=I (gq hall.out hp)
      | have HF:=I (wU (most:=4) ap hp)
     clear h1 hp;go_wp2_with fail
     refine aF _ U' U' (aj _) ?_
     repeat (first
      | (apply aG
         case hw=>rfl
         simp only [Act.put,pz])
      | (apply aH
         case hw=>rfl
         case h =>
          intro wq hq;have et:=(aB hq).1;have lJ:=(aB hq).2;go_simp
          first
           | exact ⟨hq,rfl⟩
           | exact ⟨aQ hq _,rfl⟩
           | (first | (refine (V9 xs[0] _ [] _ (aJ cc AU) cS cO).mono ?_;rw [H1.out];rintro e w2 ⟨rfl,am⟩;exact ⟨rfl,aI hq am⟩) | (refine (pk.out _ xh).mono ?_;rintro e w2 ⟨rfl,am⟩;exact ⟨rfl,aI hq am⟩))
           | (simp only [↓IntWalk.iteOmega];exact ⟨hq,rfl⟩)
         simp only [Act.put,pz]))
     refine aN ?_;intro wn hn;replace hn:=hn.out;go_wp2
     first
      | exact ⟨⟨0+1,J,N',HN.out,ah (ak aM _) hn⟩,by simp [intOf];omega⟩
      | (go_ret;exact ⟨by unfold La;rw [HF.out];rfl,ah (ak aM _) hn⟩)
   ·obtain ⟨b,o,ck,Fk,rfl,o9,hbs,hr,bi,hc⟩:=(Sl.ext (w':=wr) (A:=A) (c:=c) h aM).get ap;obtain ⟨ar,su,b5,kP,lD⟩:=oK hr;subst ar;obtain ⟨q0,q1,q2⟩:=oa 3 hc;clear hc;obtain ⟨b',o',TY,Xw,e,Ht,hbs',dE,zQ,hc'⟩:=Sl.get (Sl.ext (w':=wr) (c:=c) h aM) (show j < xs.length by omega);obtain ⟨jU,abT,vC,rP,uY⟩:=oK dE;subst jU;obtain ⟨rfl,rfl⟩:b' = b/\o' = o:=by simpa using e.symm
    clear e;obtain ⟨p0,p1,p2⟩:=oa 3 hc';clear hc';have rE:IntKind.i64.wrap (j:Int) = j:=IntWalk.i64_in _ J;have jH:j < xs.length:=J;have cS:=(Eo.out xs[j+1] (List.getElem_mem ..)).1;have cO:=(Eo.out xs[j+1] (List.getElem_mem ..)).2;subst su;have cc:=hr;cases h1:Dp xs[j+1] <;> cases h3:qo xs[j] xs[j+1]
    all_goals
     have hp:=yS (ok:=Dp) (less:=qo) ap;rw [h1,h3] at hp;try simp only [Bool.false_and,Bool.and_false,Bool.and_true,Bool.and_self] at hp
     change rowAt Dp qo xs _ = _ at hp;have H1:=I h1
     first
      | have HN:=I (gq hall.out hp)
      | have HF:=I (wU (most:=4) ap hp)
     have hC:∀wq,Below wr.heap.size wr wq->Calls Tryz.prog 108 #[.agg #[.string xs[j].key,.string xs[j].value,.int .i64 xs[j].effect],.agg #[.string xs[j+1].key,.string xs[j+1].value,.int .i64 xs[j+1].effect]] wq λe w'=>e = .returned (.int .i64 (Qa (rA xs[j] xs[j+1])))/\Below wq.heap.size wq w' :=
      λwq hq=>acE xs[j] xs[j+1] _ _ _ _ _ (aJ dE hq) (aJ cc hq)
     have pk:=I hC;clear hC;have hz:=h3;unfold qo at hz;simp only [decide_eq_true_eq,decide_eq_false_iff_not,Int.not_lt] at hz;generalize Qa (rA xs[j] xs[j+1]) = z at pk hz;clear h1 hp;go_wp2_with fail
     refine aF _ U' U' (aj _) ?_
     repeat (first
      | (apply aG
         case hw=>rfl
         simp only [Act.put,pz])
      | (apply aH
         case hw=>rfl
         case h =>
          intro wq hq;have et:=(aB hq).1;have lJ:=(aB hq).2;go_simp
          first
           | exact ⟨hq,rfl⟩
           | exact ⟨aQ hq _,rfl⟩
           | (first | (refine (V9 xs[j+1] _ [] _ (aJ cc AU) cS cO).mono ?_;rw [H1.out];rintro e w2 ⟨rfl,am⟩;exact ⟨rfl,aI hq am⟩) | (refine (pk.out _ xh).mono ?_;rintro e w2 ⟨rfl,am⟩;exact ⟨rfl,aI hq am⟩))
           | (simp only [↓IntWalk.iteOmega];exact ⟨hq,rfl⟩)
         simp only [Act.put,pz]))
     refine aN ?_;intro wn hn;replace hn:=hn.out;go_wp2
     first
      | exact ⟨⟨j+1+1,J,N',HN.out,ah (ak aM _) hn⟩,by simp [intOf];omega⟩
      | (go_ret;exact ⟨by unfold La;rw [HF.out];rfl,ah (ak aM _) hn⟩)
  ·have bz:k = xs.length:=J;subst bz;by_cases hm:(xs.length:Int)<=4
   ·have HF:=I (Jy hm hall.out);go_wp2;go_ret
    exact ⟨by unfold La;rw [HF.out];first | rfl | simp [hm],aM⟩
   ·have HF:=I (Jz (ok:=Dp) (less:=qo) hm);go_wp2;go_ret
    exact ⟨by unfold La;rw [HF.out];first | rfl | simp [hm],aM⟩
theorem ZL (xs:List iU) (A:Option Addr) (n c:Nat) (F:List Nat) (w:World) (h:Sl w xs A c F) (hn:n = xs.length) (hl:(xs.length:Int)<=1048576) (cN:∀l∈xs,(l.key.size:Int)<=1048576/\(l.value.size:Int)<=1048576) :
 Calls Tryz.prog 140 #[.slice A n c] w λe w'=>e = .returned (.bool (La xs))/\Below w.heap.size w w':=by
 subst hn;have Eo:=I cN;clear cN;by_cases hm:(xs.length:Int)<=4
 ·go_enter Tryz.func140,Tryz.ntmps140;go_wp2_with fail
  go_loopw [3] (λi wr=>∃k:Nat,k<=xs.length/\i = .int .i64 k/\Hid (∀j,j < k->rowAt Dp qo xs j = true)/\Below w.heap.size w wr) (λi _=>xs.length - (intOf i).toNat)
  case atStart=>exact ⟨0,Nat.zero_le _,rfl,(λj hj=>by omega),bJ⟩
  case round =>
   obtain ⟨k,hk,rfl,hall,aM⟩:=hrel;by_cases ap:k < xs.length
   ·obtain rfl | ⟨j,rfl⟩:k = 0∨∃j,k = j+1:=by cases k with | zero=>exact .inl rfl | succ j=>exact .inr ⟨j,rfl⟩
    ·obtain ⟨b,o,ck,Fk,rfl,o9,hbs,hr,bi,hc⟩:=(Sl.ext (w':=wr) (A:=A) (c:=c) h aM).get ap;obtain ⟨ar,su,b5,kP,lD⟩:=oK hr;subst ar;obtain ⟨q0,q1,q2⟩:=oa 3 hc;clear hc;simp only [Nat.zero_mul,Nat.add_zero] at q0 q1 q2;have cS:=(Eo.out xs[0] (List.getElem_mem ..)).1;have cO:=(Eo.out xs[0] (List.getElem_mem ..)).2;subst su;have cc:=hr;cases h1:Dp xs[0]
     all_goals
      have hp:=bR (ok:=Dp) (less:=qo) ap;rw [h1] at hp;try simp only [Bool.false_and,Bool.and_false,Bool.and_true,Bool.and_self] at hp
      change rowAt Dp qo xs _ = _ at hp;have H1:=I h1
      first
       | have HN:=I (gq hall.out hp)
       | have HF:=I (wU (most:=4) ap hp)
      clear h1 hp;go_wp2_with fail
      refine aF _ U' U' (aj _) ?_
      repeat (first
       | (apply aG
          case hw=>rfl
          simp only [Act.put,pz])
       | (apply aH
          case hw=>rfl
          case h =>
           intro wq hq;have et:=(aB hq).1;have lJ:=(aB hq).2;go_simp
           first
            | exact ⟨hq,rfl⟩
            | exact ⟨aQ hq _,rfl⟩
            | (first | (refine (Wh xs[0] _ [] _ (aJ cc AU) cS cO).mono ?_;rw [H1.out];rintro e w2 ⟨rfl,am⟩;exact ⟨rfl,aI hq am⟩) | (refine (pk.out _ xh).mono ?_;rintro e w2 ⟨rfl,am⟩;exact ⟨rfl,aI hq am⟩))
            | (simp only [↓IntWalk.iteOmega];exact ⟨hq,rfl⟩)
          simp only [Act.put,pz]))
      refine aN ?_;intro wn hn;replace hn:=hn.out;go_wp2
      first
       | exact ⟨⟨0+1,J,N',HN.out,ah aM hn⟩,by simp [intOf];omega⟩
       | (go_ret;exact ⟨by unfold La;rw [HF.out];rfl,ah aM hn⟩)
    ·obtain ⟨b,o,ck,Fk,rfl,o9,hbs,hr,bi,hc⟩:=(Sl.ext (w':=wr) (A:=A) (c:=c) h aM).get ap;obtain ⟨ar,su,b5,kP,lD⟩:=oK hr;subst ar;obtain ⟨q0,q1,q2⟩:=oa 3 hc;clear hc;obtain ⟨b',o',TY,Xw,e,Ht,hbs',dE,zQ,hc'⟩:=Sl.get (Sl.ext (w':=wr) (c:=c) h aM) (show j < xs.length by omega);obtain ⟨jU,abT,vC,rP,uY⟩:=oK dE;subst jU;obtain ⟨rfl,rfl⟩:b' = b/\o' = o:=by simpa using e.symm
     clear e;obtain ⟨p0,p1,p2⟩:=oa 3 hc';clear hc';have rE:IntKind.i64.wrap (j:Int) = j:=IntWalk.i64_in _ J;have jH:j < xs.length:=J;have cS:=(Eo.out xs[j+1] (List.getElem_mem ..)).1;have cO:=(Eo.out xs[j+1] (List.getElem_mem ..)).2;subst su;have cc:=hr;cases h1:Dp xs[j+1] <;> cases h3:qo xs[j] xs[j+1]
     all_goals
      have hp:=yS (ok:=Dp) (less:=qo) ap;rw [h1,h3] at hp;try simp only [Bool.false_and,Bool.and_false,Bool.and_true,Bool.and_self] at hp
      change rowAt Dp qo xs _ = _ at hp;have H1:=I h1
      first
       | have HN:=I (gq hall.out hp)
       | have HF:=I (wU (most:=4) ap hp)
      have hC:∀wq,Below wr.heap.size wr wq->Calls Tryz.prog 145 #[.agg #[.string xs[j].key,.string xs[j].value,.int .i64 xs[j].effect],.agg #[.string xs[j+1].key,.string xs[j+1].value,.int .i64 xs[j+1].effect]] wq λe w'=>e = .returned (.bool (qo xs[j] xs[j+1]))/\Below wq.heap.size wq w' :=
       λwq hq=>Z3 xs[j] xs[j+1] _ _ _ _ _ (aJ dE hq) (aJ cc hq)
      rw [h3] at hC;have pk:=I hC;clear hC;clear h1 hp;go_wp2_with fail
      refine aF _ U' U' (aj _) ?_
      repeat (first
       | (apply aG
          case hw=>rfl
          simp only [Act.put,pz])
       | (apply aH
          case hw=>rfl
          case h =>
           intro wq hq;have et:=(aB hq).1;have lJ:=(aB hq).2;go_simp
           first
            | exact ⟨hq,rfl⟩
            | exact ⟨aQ hq _,rfl⟩
            | (first | (refine (Wh xs[j+1] _ [] _ (aJ cc AU) cS cO).mono ?_;rw [H1.out];rintro e w2 ⟨rfl,am⟩;exact ⟨rfl,aI hq am⟩) | (refine (pk.out _ xh).mono ?_;rintro e w2 ⟨rfl,am⟩;exact ⟨rfl,aI hq am⟩))
            | (simp only [↓IntWalk.iteOmega];exact ⟨hq,rfl⟩)
          simp only [Act.put,pz]))
      refine aN ?_;intro wn hn;replace hn:=hn.out;go_wp2
      first
       | exact ⟨⟨j+1+1,J,N',HN.out,ah aM hn⟩,by simp [intOf];omega⟩
       | (go_ret;exact ⟨by unfold La;rw [HF.out];rfl,ah aM hn⟩)
   ·have bz:k = xs.length:=J;subst bz;have HF:=I (Jy hm hall.out);go_wp2;go_ret
    exact ⟨by unfold La;rw [HF.out];rfl,aM⟩
 ·have HF:=I (Jz (ok:=Dp) (less:=qo) hm);go_enter Tryz.func140,Tryz.ntmps140;go_wp2;go_ret
  exact ⟨by unfold La;rw [HF.out];rfl,bJ⟩
theorem ayz {w:World} : ∀{xs:List ByteArray} {ds:List Value} {G:List Nat},jo w xs ds G->ds = xs.map Value.string/\G = []/\∀x∈xs,x.size<=maxLen
 | [],_,_,⟨rfl,rfl⟩=>⟨rfl,rfl,λx hx=>by cases hx⟩
 | x :: xs,_,_,⟨c1,c2,F1,F2,rfl,rfl,h0,h2⟩=>by
   obtain ⟨rfl,rfl,h1⟩:=h0;obtain ⟨rfl,rfl,h3⟩:=ayz h2;refine ⟨rfl,rfl,λy hy=>?_⟩;rcases List.mem_cons.1 hy with rfl | hy
   ·exact h1
   ·exact h3 y hy
theorem ayA {w:World} : ∀{xs:List ByteArray},(∀x∈xs,x.size<=maxLen)->jo w xs (xs.map Value.string) []
 | [],_=>⟨rfl,rfl⟩
 | x :: xs,h=>⟨[.string x],_,[],[],rfl,rfl,⟨rfl,rfl,h x (List.mem_cons_self ..)⟩,ayA λy hy=>h y (List.mem_cons_of_mem _ hy)⟩
section
variable {w w':World} {B c:Nat} {xs ys:List ByteArray} {A:Option Addr} {F:List Nat}
structure Ck (w:World) (B b o c:Nat) (xs:List ByteArray):Prop where
 base:B<=b
 plain:Plain w b
 cap:xs.length<=c
 max:c<=maxLen
 size:∀x∈xs,x.size<=maxLen
 cells:∀j u,(xs.map Value.string)[j]? = some u->w.cell? ⟨b,o+j,none⟩ = some u
theorem ai.Qg (h:ai w B xs [.slice A xs.length c] F) (bI:xs≠[]):∃b o,A = some ⟨b,o,none⟩/\F = [b]/\Ck w B b o c xs:=by
 obtain ⟨⟨A',c',G,ds,e0,cU,bM,hc,h0⟩,hn,hb,hp⟩:=h;simp only [List.cons.injEq,Value.slice.injEq,and_true,true_and] at e0;obtain ⟨rfl,rfl⟩:=e0;rcases h0 with ⟨h1,_⟩ | ⟨b,o,rfl,rfl,ap,bv⟩
 ·exact absurd h1 bI
 ·obtain ⟨rfl,rfl,hs⟩:=ayz hc;exact ⟨b,o,rfl,rfl,hb b (List.mem_cons_self ..),hp b (List.mem_cons_self ..),cU,bM,hs,λj u hj=>bv j u hj⟩
theorem Ck.own {b o:Nat} (h:Ck w B b o c xs):ai w B xs [.slice (some ⟨b,o,none⟩) xs.length c] [b] :=
 ⟨⟨_,c,_,_,rfl,h.cap,h.max,ayA h.size,.inr ⟨b,o,rfl,rfl,h.plain.lt,h.cells⟩⟩,S',(λy hy=>by rw [List.mem_singleton.1 hy];exact h.base),(λy hy=>by rw [List.mem_singleton.1 hy];exact h.plain)⟩
theorem aGD (x:ByteArray):encStr x.toList = .string x:=by rw [ByteArray.toList_eq]
theorem aGE (l:List UInt8):(⟨l.toArray⟩:ByteArray).toList = l:=by rw [ByteArray.toList_eq]
theorem Ck.holds {b o:Nat} (h:Ck w B b o c xs):Go.Sort.Holds encStr w b o (xs.map λx=>x.toList).toArray:=by
 intro j hj;have oM:j < xs.length:=by simpa using hj
 refine ⟨?_,h.plain.frozen _⟩;rw [h.cells j (.string xs[j]) (by rw [List.getElem?_map,List.getElem?_eq_getElem oM];rfl)];rw [getElem!_pos _ j hj,List.getElem_toArray,List.getElem_map,aGD]
theorem l8 (enc:List UInt8->Value) (w:World) (b o n:Nat) (d:Array (List UInt8)) (os:Array Obj):nN [b] w (Go.Sort.grow (Go.Sort.putRow enc (Go.Sort.ahead w n) b o d) os):=by
 have hs:(Go.Sort.putRow enc (Go.Sort.ahead w n) b o d).heap.size = w.heap.size:=by simp [Go.Sort.putRow,Go.Sort.mapBlock,Go.Sort.ahead]
 refine ⟨rfl,rfl,rfl,?_,λx hx hn=>?_⟩
 ·show w.heap.size<=((Go.Sort.putRow enc (Go.Sort.ahead w n) b o d).heap++os).size;rw [Array.size_append,hs];exact Nat.le_add_right _ _
 have bI:x≠b:=by simpa using hn
 show ((Go.Sort.putRow enc (Go.Sort.ahead w n) b o d).heap++os)[x]? = _;rw [Array.getElem?_append_left (by rw [hs];exact hx)];simp [Go.Sort.putRow,Go.Sort.mapBlock,Array.getElem?_modify,Ne.symm bI,Go.Sort.ahead]
theorem aBK (enc:List UInt8->Value) (w:World) (b o n:Nat) (d:Array (List UInt8)) (os:Array Obj) (h:Plain w b):Plain (Go.Sort.grow (Go.Sort.putRow enc (Go.Sort.ahead w n) b o d) os) b:=by
 have ap:=h.lt;obtain ⟨ds,t,h⟩:=h;have hs:(Go.Sort.putRow enc (Go.Sort.ahead w n) b o d).heap.size = w.heap.size:=by simp [Go.Sort.putRow,Go.Sort.mapBlock,Go.Sort.ahead]
 refine ⟨Go.Sort.putCells enc o d ds,t,?_⟩;show ((Go.Sort.putRow enc (Go.Sort.ahead w n) b o d).heap++os)[b]? = _;rw [Array.getElem?_append_left (by rw [hs];exact ap)];simp [Go.Sort.putRow,Go.Sort.mapBlock,Array.getElem?_modify,h,Go.Sort.onCells,Go.Sort.ahead]
theorem Ck.put {b o:Nat} (h:Ck w B b o c xs) (zs rest:List (List UInt8)) (hl:zs.length+rest.length = xs.length) (hm:∀z∈zs,z∈xs.map λx=>x.toList) (n:Nat) (os:Array Obj) :
 Ck (Go.Sort.grow (Go.Sort.putRow encStr (Go.Sort.ahead w n) b o (zs++rest).toArray) os) B b o c (zs.map λl=>⟨l.toArray⟩):=by
 refine ⟨h.base,aBK _ _ _ _ _ _ _ h.plain,by rw [List.length_map];have:=h.cap;omega,h.max,λx hx=>?_,λj u hj=>?_⟩
 ·obtain ⟨l,cA,rfl⟩:=List.mem_map.1 hx;obtain ⟨y,hy,rfl⟩:=List.mem_map.1 (hm l cA);have:=h.size y hy;rwa [show (⟨y.toList.toArray⟩:ByteArray) = y by rw [ByteArray.toList_eq]]
 ·have Jb:j < zs.length:=by have:=(List.getElem?_eq_some_iff.1 hj).1;simpa using this
  have ap:=h.plain.lt;have hH:=Go.Sort.holds_grow encStr _ os b o _ (by simp [Go.Sort.putRow,Go.Sort.mapBlock,Go.Sort.ahead];exact ap) (Go.Sort.holds_putRow encStr (Go.Sort.ahead w n) b o _ (zs++rest).toArray (Go.Sort.holds_ahead encStr w n b o _ h.holds) (by simp;omega));have:=(hH j (by simp;omega)).1;rw [this,getElem!_pos _ j (by simp;omega),List.getElem_toArray,List.getElem_append_left Jb];rw [List.map_map,List.getElem?_map,List.getElem?_eq_getElem Jb] at hj;exact hj
end
theorem sb (zs:List (List UInt8)):(zs.map λl=>(⟨l.toArray⟩:ByteArray)).map (λx=>x.toList) = zs:=by
 rw [List.map_map];conv=>rhs;rw [<- List.map_id zs]
 exact List.map_congr_left λl _=>aGE l
theorem sortStr (xs:List ByteArray) (A:Option Addr) (c:Nat) (F:List Nat) (w:World) (B:Nat) (h:ai w B xs [.slice A xs.length c] F) (hl:(xs.length:Int)<=1048576) :
 Calls Tryz.prog 120 #[.slice A xs.length c] w λe w'=>e = .returned (.tuple #[])/\∃ys:List ByteArray,ys.map (λx=>x.toList) = (xs.map λx=>x.toList).mergeSort (λx y=>decide (x<=y))/\ai w' B ys [.slice A xs.length c] F/\nN F w w':=by
 by_cases bI:xs = []
 ·subst bI;refine (calls_of_every_depth λD=>AnyS.slices_Sort_string_none_alone sa D A c w).mono ?_;rintro e w' ⟨rfl,rfl⟩;exact ⟨rfl,[],S',h,nN.refl _ _⟩
 ·obtain ⟨b,o,rfl,rfl,S⟩:=h.Qg bI;have h62:(xs.map λx=>x.toList).length < 4611686018427387904:=by rw [List.length_map];omega
  have h0:=λD=>AnyS.slices_Sort_string_alone sa D b o c (xs.map λx=>x.toList) w S.holds S.plain.lt h62;have:=calls_of_every_depth h0;rw [List.length_map] at this;refine this.mono ?_;rintro e w' ⟨rfl,n,os,rfl⟩;have hL:((xs.map λx=>x.toList).mergeSort λx y=>decide (x<=y)).length = xs.length:=by rw [List.length_mergeSort,List.length_map]
  have S2:=S.put ((xs.map λx=>x.toList).mergeSort λx y=>decide (x<=y)) [] S' (λz hz=>List.mem_mergeSort.1 hz) n os;rw [List.append_nil] at S2;refine ⟨rfl,_,sb _,?_,l8 _ _ _ _ _ _ _⟩;have h9:=S2.own;rwa [List.length_map,hL] at h9
theorem z8 (xs:List ByteArray) (A:Option Addr) (c:Nat) (F:List Nat) (w:World) (B:Nat) (h:ai w B xs [.slice A xs.length c] F) (hl:(xs.length:Int)<=1048576) :
 Calls Tryz.prog 121 #[.slice A xs.length c] w λe w'=>∃ys:List ByteArray,e = .returned (.slice A ys.length c)/\ys.map (λx=>x.toList) = Lib.compact (xs.map λx=>x.toList)/\ai w' B ys [.slice A ys.length c] F/\nN F w w':=by
 by_cases bI:xs = []
 ·subst bI;refine (calls_of_every_depth λD=>AnyS.slices_Compact_string_empty_in l7 D A c w).mono ?_;rintro e w' ⟨rfl,rfl⟩;exact ⟨[],rfl,rfl,h,nN.refl _ _⟩
 ·obtain ⟨b,o,rfl,rfl,S⟩:=h.Qg bI;have h63:(xs.map λx=>x.toList).length<=9223372036854775807:=by rw [List.length_map];omega
  have BY:(xs.map λx=>x.toList).length<=c:=by rw [List.length_map];exact S.cap
  have h0:=λD=>AnyS.slices_Compact_string_in l7 D b o c (xs.map λx=>x.toList) w S.holds h63 BY;have:=calls_of_every_depth h0;rw [List.length_map] at this;refine this.mono ?_;rintro e w' ⟨rfl,n,rfl⟩;have eW:(Lib.compact (xs.map λx=>x.toList)).length<=xs.length:=by
   have h9:(Lib.compact (xs.map λx=>x.toList)).length<=(xs.map λx=>x.toList).length:=by unfold Lib.compact Lib.compactUpTo;rw [List.length_map];exact Nat.le_trans (List.length_filter_le ..) S'
   rwa [List.length_map] at h9
  have S2:=S.put (Lib.compact (xs.map λx=>x.toList)) (List.replicate (xs.length - (Lib.compact (xs.map λx=>x.toList)).length) []) (by simp;omega) (λz hz=>(ayU _ z).1 hz) n #[];rw [show ∀W:World,Go.Sort.grow W #[] = W from λW=>by simp [Go.Sort.grow]] at S2;refine ⟨(Lib.compact (xs.map λx=>x.toList)).map λl=>⟨l.toArray⟩,by rw [List.length_map],sb _,S2.own,?_⟩;have hu:=l8 encStr w b o n (Lib.compact (xs.map λ(x:ByteArray)=>x.toList)++List.replicate (xs.length - (Lib.compact (xs.map λ(x:ByteArray)=>x.toList)).length) []).toArray #[];rwa [show ∀W:World,Go.Sort.grow W #[] = W from λW=>by simp [Go.Sort.grow]] at hu
theorem Cl:∀a b:List UInt8,Op.bytesLess a b = true↔a < b
 | [],[]=>by simp [Op.bytesLess]
 | [],_ :: _=>by simp [Op.bytesLess]
 | _ :: _,[]=>by simp [Op.bytesLess]
 | x :: a,y :: b=>by rw [Se,List.cons_lt_cons_iff,Cl a b]
theorem aDA (x y:S8) (r:List S8):qN x (y :: r) = if y < x then y :: qN x r else if y = x then y :: r else x :: y :: r:=rfl
theorem aDB (x y:ByteArray) (r:List ByteArray):Go.Proofs.YtdegaofigemegaaGreat.eA blt x (y :: r) = if blt y x then y :: Go.Proofs.YtdegaofigemegaaGreat.eA blt x r else if blt x y then x :: y :: r else y :: r:=rfl
theorem aCT (x:ByteArray):∀r:List ByteArray,(Go.Proofs.YtdegaofigemegaaGreat.eA blt x r).map (λx=>x.toList) = qN x.toList (r.map λx=>x.toList)
 | []=>rfl
 | y :: r=>by
   have ap:∀a b:ByteArray,blt a b = true↔a.toList < b.toList:=λa b=>Cl _ _;have ih:=aCT x r;rw [aDB,List.map_cons,aDA];by_cases h1:blt y x = true
   ·rw [if_pos h1,if_pos ((ap _ _).1 h1),List.map_cons,ih]
   ·rw [if_neg h1,if_neg (λh=>h1 ((ap _ _).2 h))];by_cases h2:blt x y = true
    ·rw [if_pos h2,if_neg (λe=>by have h3:=(ap _ _).1 h2;rw [e] at h3;exact absurd h3 (List.lt_irrefl _))];rfl
    ·have e:=vo.xR x y QN (by simpa using h1);rw [if_neg h2,if_pos (by rw [e])];rfl
theorem aA8:∀(xs acc:List ByteArray),(dx blt acc xs).map (λx=>x.toList) = (xs.map λx=>x.toList).foldl (λr x=>qN x r) (acc.map λx=>x.toList)
 | [],_=>rfl
 | x :: xs,acc=>by rw [List.map_cons,List.foldl_cons,<- aCT,<- aA8 xs];rfl
theorem toList_inj:∀{a b:List ByteArray},a.map (λx=>x.toList) = b.map (λx=>x.toList)->a = b
 | [],[],_=>rfl
 | [],_ :: _,h=>by simp at h
 | _ :: _,[],h=>by simp at h
 | x :: a,y :: b,h=>by
   rw [List.map_cons,List.map_cons,List.cons.injEq] at h;have e:x = y:=Ce (by rw [beq_iff_eq];exact h.1);rw [e,toList_inj h.2]
theorem Ab {xs ys zs:List ByteArray} (h1:ys.map (λx=>x.toList) = (xs.map λx=>x.toList).mergeSort (λx y=>decide (x<=y))) (h2:zs.map (λx=>x.toList) = Lib.compact (ys.map λx=>x.toList)):zs = gm xs:=by
 refine toList_inj ?_;rw [h2,h1,Qf];exact (aA8 xs []).symm
end Go.Proofs.YtdegaofigemegaaGreat
