/- LabelsOk, of the program and of the reference. No condition. -/
import Derived.Test.YtjahcnjmjahbaaaGreatToBase
namespace Go.Proofs.YtjahcnjmjahbaaaGreat
open Go.ChangeShapes Go.WideShapes Go.ChangeAt Go.RowKit
set_option linter.unusedVariables false
set_option linter.unusedSimpArgs false
set_option maxHeartbeats 2000000
set_option maxRecDepth 100000
def zX (l:ao):Bool:=Cm l.key&&AQ l.value
def zi (a b:ao):Bool:=Op.bytesLess a.key.toList b.key.toList
def sD (xs:List ao):Bool:=lE zX zi 6 xs
theorem Jv (xs:List ao) (A:Option Addr) (n c:Nat) (F:List Nat) (w:World) (h:Sl w xs A c F) (hn:n = xs.length) (hl:(xs.length:Int)≤1048576) (cX:∀l∈xs,(l.key.size:Int)≤1048576∧(l.value.size:Int)≤1048576) :
 Calls Tryz.prog 76 #[.slice A n c] w fun e w'=>e = .returned (.bool (sD xs))∧Below w.heap.size w w':=by
 subst hn;have Eo:=I cX;clear cX;go_enter Tryz.func76,Tryz.ntmps76;go_wp2_with fail
 go_loopw [7] (fun i wr=>∃k:Nat,k≤xs.length∧i = .int .i64 k∧Hid (∀j,j < k→bB zX zi xs j = true)∧Below w.heap.size w wr) (fun i _=>xs.length - (intOf i).toNat)
 case atStart=>exact ⟨0,Nat.zero_le _,rfl,(fun j hj=>by omega),bs⟩
 case round =>
  obtain ⟨k,hk,rfl,hall,aE⟩:=hrel;by_cases ap:k < xs.length
  ·obtain rfl | ⟨j,rfl⟩:k = 0∨∃j,k = j+1:=by cases k with | zero=>exact .inl rfl | succ j=>exact .inr ⟨j,rfl⟩
   ·obtain ⟨b,o,ck,Fk,rfl,o9,hbs,hr,bv,hc⟩:=(Sl.ext (w':=wr) (A:=A) (c:=c) h aE).get ap;obtain ⟨aw,su,ca,kP⟩:=vO hr;subst aw;obtain ⟨q0,q1⟩:=uy 2 hc;clear hc;simp only [Nat.zero_mul,Nat.add_zero] at q0 q1;have cJ:=(Eo.out xs[0] (List.getElem_mem ..)).1;have cE:=(Eo.out xs[0] (List.getElem_mem ..)).2;cases h1:Cm xs[0].key <;> cases h2:AQ xs[0].value
    all_goals
     have hp:=bR (ok:=zX) (less:=zi) ap;unfold zX at hp;rw [h1,h2] at hp;simp only [Bool.false_and,Bool.and_false,Bool.and_true,Bool.and_self] at hp;change bB zX zi xs _ = _ at hp;have H1:=I h1;have H2:=I h2
     first
      | have HN:=I (gq hall.out hp)
      | have HF:=I (wU (most:=6) ap hp)
     clear h1 h2 hp;go_wp2_with fail
     refine aF _ U' U' (aj _) ?_
     repeat (first
      | (apply aG
         case hw=>rfl
         simp only [Act.put,pz])
      | (apply aH
         case hw=>rfl
         case h =>
          intro wq hq;have dc:=(aB hq).1;have lJ:=(aB hq).2;go_simp
          first
           | exact ⟨hq,rfl⟩
           | exact ⟨aQ hq _,rfl⟩
           | (first | (refine (rX xs[0].key _ cJ).mono ?_;rw [H1.out];rintro e w2 ⟨rfl,av⟩;exact ⟨rfl,aI hq av⟩) | (refine (xQ xs[0].value _ cE).mono ?_;rw [H2.out];rintro e w2 ⟨rfl,av⟩;exact ⟨rfl,aI hq av⟩))
           | (simp only [↓IntWalk.iteOmega];exact ⟨hq,rfl⟩)
         simp only [Act.put,pz]))
     refine aN ?_;intro wn hn;replace hn:=hn.out;go_wp2
     first
      | exact ⟨⟨0+1,J,N',HN.out,ah (ak aE _) hn⟩,by simp [intOf];omega⟩
      | (go_ret;exact ⟨by unfold sD;rw [HF.out];rfl,ah (ak aE _) hn⟩)
   ·obtain ⟨b,o,ck,Fk,rfl,o9,hbs,hr,bv,hc⟩:=(Sl.ext (w':=wr) (A:=A) (c:=c) h aE).get ap;obtain ⟨aw,su,ca,kP⟩:=vO hr;subst aw;obtain ⟨q0,q1⟩:=uy 2 hc;clear hc;obtain ⟨b',o',TY,Xw,e,Ht,hbs',cN,zQ,hc'⟩:=Sl.get (Sl.ext (w':=wr) (c:=c) h aE) (show j < xs.length by omega);obtain ⟨jU,abT,vC,rP⟩:=vO cN;subst jU;obtain ⟨rfl,rfl⟩:b' = b∧o' = o:=by simpa using e.symm
    clear e;obtain ⟨p0,p1⟩:=uy 2 hc';clear hc';have pa:IntKind.i64.wrap (j:Int) = j:=IntWalk.i64_in _ J;have gC:j < xs.length:=J;have cJ:=(Eo.out xs[j+1] (List.getElem_mem ..)).1;have cE:=(Eo.out xs[j+1] (List.getElem_mem ..)).2;cases h1:Cm xs[j+1].key <;> cases h2:AQ xs[j+1].value <;> cases h3:Op.bytesLess xs[j].key.toList xs[j+1].key.toList
    all_goals
     have hp:=yS (ok:=zX) (less:=zi) ap;unfold zX zi at hp;rw [h1,h2,h3] at hp;simp only [Bool.false_and,Bool.and_false,Bool.and_true,Bool.and_self] at hp;change bB zX zi xs _ = _ at hp;have H1:=I h1;have H2:=I h2
     first
      | have HN:=I (gq hall.out hp)
      | have HF:=I (wU (most:=6) ap hp)
     clear h1 h2 hp;go_wp2_with fail
     refine aF _ U' U' (aj _) ?_
     repeat (first
      | (apply aG
         case hw=>rfl
         simp only [Act.put,pz])
      | (apply aH
         case hw=>rfl
         case h =>
          intro wq hq;have dc:=(aB hq).1;have lJ:=(aB hq).2;go_simp
          first
           | exact ⟨hq,rfl⟩
           | exact ⟨aQ hq _,rfl⟩
           | (first | (refine (rX xs[j+1].key _ cJ).mono ?_;rw [H1.out];rintro e w2 ⟨rfl,av⟩;exact ⟨rfl,aI hq av⟩) | (refine (xQ xs[j+1].value _ cE).mono ?_;rw [H2.out];rintro e w2 ⟨rfl,av⟩;exact ⟨rfl,aI hq av⟩))
           | (simp only [↓IntWalk.iteOmega];exact ⟨hq,rfl⟩)
         simp only [Act.put,pz]))
     refine aN ?_;intro wn hn;replace hn:=hn.out;go_wp2
     first
      | exact ⟨⟨j+1+1,J,N',HN.out,ah (ak aE _) hn⟩,by simp [intOf];omega⟩
      | (go_ret;exact ⟨by unfold sD;rw [HF.out];rfl,ah (ak aE _) hn⟩)
  ·have bx:k = xs.length:=J;subst bx;by_cases hm:(xs.length:Int)≤6
   ·have HF:=I (Jy hm hall.out);go_wp2;go_ret
    exact ⟨by unfold sD;rw [HF.out];first | rfl | simp [hm],aE⟩
   ·have HF:=I (Jz (ok:=zX) (less:=zi) hm);go_wp2;go_ret
    exact ⟨by unfold sD;rw [HF.out];first | rfl | simp [hm],aE⟩
theorem Jw (xs:List ao) (A:Option Addr) (n c:Nat) (F:List Nat) (w:World) (h:Sl w xs A c F) (hn:n = xs.length) (hl:(xs.length:Int)≤1048576) (cX:∀l∈xs,(l.key.size:Int)≤1048576∧(l.value.size:Int)≤1048576) :
 Calls Tryz.prog 90 #[.slice A n c] w fun e w'=>e = .returned (.bool (sD xs))∧Below w.heap.size w w':=by
 subst hn;have Eo:=I cX;clear cX;by_cases hm:(xs.length:Int)≤6
 ·go_enter Tryz.func90,Tryz.ntmps90;go_wp2_with fail
  go_loopw [3] (fun i wr=>∃k:Nat,k≤xs.length∧i = .int .i64 k∧Hid (∀j,j < k→bB zX zi xs j = true)∧Below w.heap.size w wr) (fun i _=>xs.length - (intOf i).toNat)
  case atStart=>exact ⟨0,Nat.zero_le _,rfl,(fun j hj=>by omega),bs⟩
  case round =>
   obtain ⟨k,hk,rfl,hall,aE⟩:=hrel;by_cases ap:k < xs.length
   ·obtain rfl | ⟨j,rfl⟩:k = 0∨∃j,k = j+1:=by cases k with | zero=>exact .inl rfl | succ j=>exact .inr ⟨j,rfl⟩
    ·obtain ⟨b,o,ck,Fk,rfl,o9,hbs,hr,bv,hc⟩:=(Sl.ext (w':=wr) (A:=A) (c:=c) h aE).get ap;obtain ⟨aw,su,ca,kP⟩:=vO hr;subst aw;obtain ⟨q0,q1⟩:=uy 2 hc;clear hc;simp only [Nat.zero_mul,Nat.add_zero] at q0 q1;have cJ:=(Eo.out xs[0] (List.getElem_mem ..)).1;have cE:=(Eo.out xs[0] (List.getElem_mem ..)).2;cases h1:Cm xs[0].key <;> cases h2:AQ xs[0].value
     all_goals
      have hp:=bR (ok:=zX) (less:=zi) ap;unfold zX at hp;rw [h1,h2] at hp;simp only [Bool.false_and,Bool.and_false,Bool.and_true,Bool.and_self] at hp;change bB zX zi xs _ = _ at hp;have H1:=I h1;have H2:=I h2
      first
       | have HN:=I (gq hall.out hp)
       | have HF:=I (wU (most:=6) ap hp)
      clear h1 h2 hp;go_wp2_with fail
      refine aF _ U' U' (aj _) ?_
      repeat (first
       | (apply aG
          case hw=>rfl
          simp only [Act.put,pz])
       | (apply aH
          case hw=>rfl
          case h =>
           intro wq hq;have dc:=(aB hq).1;have lJ:=(aB hq).2;go_simp
           first
            | exact ⟨hq,rfl⟩
            | exact ⟨aQ hq _,rfl⟩
            | (first | (refine (qK xs[0].key _ cJ).mono ?_;rw [H1.out];rintro e w2 ⟨rfl,av⟩;exact ⟨rfl,aI hq av⟩) | (refine (vH xs[0].value _ cE).mono ?_;rw [H2.out];rintro e w2 ⟨rfl,av⟩;exact ⟨rfl,aI hq av⟩))
            | (simp only [↓IntWalk.iteOmega];exact ⟨hq,rfl⟩)
          simp only [Act.put,pz]))
      refine aN ?_;intro wn hn;replace hn:=hn.out;go_wp2
      first
       | exact ⟨⟨0+1,J,N',HN.out,ah aE hn⟩,by simp [intOf];omega⟩
       | (go_ret;exact ⟨by unfold sD;rw [HF.out];rfl,ah aE hn⟩)
    ·obtain ⟨b,o,ck,Fk,rfl,o9,hbs,hr,bv,hc⟩:=(Sl.ext (w':=wr) (A:=A) (c:=c) h aE).get ap;obtain ⟨aw,su,ca,kP⟩:=vO hr;subst aw;obtain ⟨q0,q1⟩:=uy 2 hc;clear hc;obtain ⟨b',o',TY,Xw,e,Ht,hbs',cN,zQ,hc'⟩:=Sl.get (Sl.ext (w':=wr) (c:=c) h aE) (show j < xs.length by omega);obtain ⟨jU,abT,vC,rP⟩:=vO cN;subst jU;obtain ⟨rfl,rfl⟩:b' = b∧o' = o:=by simpa using e.symm
     clear e;obtain ⟨p0,p1⟩:=uy 2 hc';clear hc';have pa:IntKind.i64.wrap (j:Int) = j:=IntWalk.i64_in _ J;have gC:j < xs.length:=J;have cJ:=(Eo.out xs[j+1] (List.getElem_mem ..)).1;have cE:=(Eo.out xs[j+1] (List.getElem_mem ..)).2;cases h1:Cm xs[j+1].key <;> cases h2:AQ xs[j+1].value <;> cases h3:Op.bytesLess xs[j].key.toList xs[j+1].key.toList
     all_goals
      have hp:=yS (ok:=zX) (less:=zi) ap;unfold zX zi at hp;rw [h1,h2,h3] at hp;simp only [Bool.false_and,Bool.and_false,Bool.and_true,Bool.and_self] at hp;change bB zX zi xs _ = _ at hp;have H1:=I h1;have H2:=I h2
      first
       | have HN:=I (gq hall.out hp)
       | have HF:=I (wU (most:=6) ap hp)
      clear h1 h2 hp;go_wp2_with fail
      refine aF _ U' U' (aj _) ?_
      repeat (first
       | (apply aG
          case hw=>rfl
          simp only [Act.put,pz])
       | (apply aH
          case hw=>rfl
          case h =>
           intro wq hq;have dc:=(aB hq).1;have lJ:=(aB hq).2;go_simp
           first
            | exact ⟨hq,rfl⟩
            | exact ⟨aQ hq _,rfl⟩
            | (first | (refine (qK xs[j+1].key _ cJ).mono ?_;rw [H1.out];rintro e w2 ⟨rfl,av⟩;exact ⟨rfl,aI hq av⟩) | (refine (vH xs[j+1].value _ cE).mono ?_;rw [H2.out];rintro e w2 ⟨rfl,av⟩;exact ⟨rfl,aI hq av⟩))
            | (simp only [↓IntWalk.iteOmega];exact ⟨hq,rfl⟩)
          simp only [Act.put,pz]))
      refine aN ?_;intro wn hn;replace hn:=hn.out;go_wp2
      first
       | exact ⟨⟨j+1+1,J,N',HN.out,ah aE hn⟩,by simp [intOf];omega⟩
       | (go_ret;exact ⟨by unfold sD;rw [HF.out];rfl,ah aE hn⟩)
   ·have bx:k = xs.length:=J;subst bx;have HF:=I (Jy hm hall.out);go_wp2;go_ret
    exact ⟨by unfold sD;rw [HF.out];rfl,aE⟩
 ·have HF:=I (Jz (ok:=zX) (less:=zi) hm);go_enter Tryz.func90,Tryz.ntmps90;go_wp2;go_ret
  exact ⟨by unfold sD;rw [HF.out];rfl,bs⟩
instance:bd UInt8 where
 size:=1
 pos:=by omega
 rd _ n cs F:=cs = [.int .u8 (n.toNat:Int)]∧F = []
 len h:=by rw [h.1];rfl
 one h:=by rw [h.1];intro u hu;simp at hu;subst hu;rfl
 lt h:=by rw [h.2];intro b hb;cases hb
 frame h _ _:=h
theorem aBV {P:Program} {t:TypeId} (ht:P.underlying t = some (.int .u8)):rT P t UInt8:=by
 intro H enc w base fe spare held cs d h;obtain ⟨n,rfl,_,hw⟩:=DataW.trod_int ht h;have h2:0≤n∧n≤255:=by
  have:=hw;simp [Lit.wf,IntKind.min,IntKind.max,IntKind.signed,IntKind.bits] at this;exact this
 refine ⟨UInt8.ofNat n.toNat,[],?_,rfl⟩;have e:((UInt8.ofNat n.toNat).toNat:Int) = n:=by
  have h3:(UInt8.ofNat n.toNat).toNat = n.toNat % 256:=by simp
  rw [h3];omega
 rw [e]
def cr (w:World) (c:Nat) (A:Option Addr) (n aL:Nat):Prop :=
 (∃(i h:Int) (t:TypeId),w.heap[c]? = some (.cells #[.slice A n aL,.int .i64 i,.int .i64 h] t (0,0))∧(0≤i∧i≤n)∧bi h) ∧
 (∀k,k < n→∃(g o:Nat) (v:Int),A = some ⟨g,o,none⟩∧g < c∧w.cell? ⟨g,o+k,none⟩ = some (.int .u8 v)∧0≤v∧v≤255)∧(n:Int)≤1048576
section
variable {w w':World} {c:Nat} {A:Option Addr} {n aL:Nat}
theorem cr.lt (h:cr w c A n aL):c < w.heap.size:=by
 obtain ⟨⟨i,x,t,h,_⟩,_⟩:=h;rcases Nat.lt_or_ge c w.heap.size with ap | lA
 ·exact ap
 ·rw [Array.getElem?_eq_none lA] at h;cases h
theorem cr.ext (h:cr w c A n aL) (hb:Below w.heap.size w w'):cr w' c A n aL:=by
 have ap:=h.lt;obtain ⟨⟨i,x,t,h1,h2⟩,h3,h4⟩:=h;refine ⟨⟨i,x,t,(hb.block c ap).trans h1,h2⟩,fun k hk=>?_,h4⟩;obtain ⟨g,o,v,e,hg,hc,hv⟩:=h3 k hk;exact ⟨g,o,v,e,hg,(World.cell?_of_block (hb.block g J)).trans hc,hv⟩
theorem cr.drew (h:cr w c A n aL):cr w.drew c A n aL:=h.ext (aA (aj _))
theorem cr.bE (h:cr w c A n aL) {b:Nat} (hb:c < b) (i:Nat) (u:Value):cr (w.setCell ⟨b,i,none⟩ u) c A n aL:=by
 obtain ⟨⟨j,x,t,h1,h2⟩,h3,h4⟩:=h;refine ⟨⟨j,x,t,(Below.heap_setCell _ _ _ _ bz).trans h1,h2⟩,fun k hk=>?_,h4⟩;exact zD
theorem cr.LO (h:cr w c A n aL) {i:Int} (hi:0≤i∧i≤n):cr (w.setCell ⟨c,1,none⟩ (.int .i64 i)) c A n aL:=by
 obtain ⟨⟨j,x,t,h1,h2⟩,h3,h4⟩:=h;refine ⟨⟨i,x,t,by simp [World.setCell,Array.getElem?_modify,h1],hi,h2.2⟩,fun k hk=>?_,h4⟩;exact zD
theorem cr.number (h:cr w c A n aL) {x:Int} (hx:bi x):cr (w.setCell ⟨c,2,none⟩ (.int .i64 x)) c A n aL:=by
 obtain ⟨⟨j,y,t,h1,h2⟩,h3,h4⟩:=h;refine ⟨⟨j,x,t,by simp [World.setCell,Array.getElem?_modify,h1],h2.1,hx⟩,fun k hk=>?_,h4⟩;exact zD
theorem cr.cells (h:cr w c A n aL):∃i x:Int,(0≤i∧i≤n)∧bi x∧w.cell? ⟨c,0,none⟩ = some (.slice A n aL)∧w.cell? ⟨c,1,none⟩ = some (.int .i64 i)∧w.cell? ⟨c,2,none⟩ = some (.int .i64 x)∧∀k,w.frozen? ⟨c,k,none⟩ = false:=by
 obtain ⟨⟨i,x,t,h,h2⟩,_⟩:=h;refine ⟨i,x,h2.1,h2.2,?_,?_,?_,fun k=>by simp [World.frozen?,h]⟩
 ·rw [cell_of_row w c 0 _ t (0,0) h];rfl
 ·rw [cell_of_row w c 1 _ t (0,0) h];rfl
 ·rw [cell_of_row w c 2 _ t (0,0) h];rfl
theorem cr.byte (h:cr w c A n aL) {k:Nat} (hk:k < n):∃(g o:Nat) (v:Int),A = some ⟨g,o,none⟩∧g < c∧w.cell? ⟨g,o+k,none⟩ = some (.int .u8 v)∧0≤v∧v≤255:=h.2.1 k hk
theorem cr.small (h:cr w c A n aL):(n:Int)≤1048576:=h.2.2
end
def oG (w:World) (g:Nat) (cs:List Value):Prop:=∃t,w.heap[g]? = some (.cells cs.toArray t (0,0))
section
variable {w w':World} {g:Nat} {cs:List Value}
theorem oG.lt (h:oG w g cs):g < w.heap.size:=by
 obtain ⟨t,h⟩:=h;rcases Nat.lt_or_ge g w.heap.size with ap | lA
 ·exact ap
 ·rw [Array.getElem?_eq_none lA] at h;cases h
theorem oG.cell (h:oG w g cs) {i:Nat} {u:Value} (hi:cs[i]? = some u):w.cell? ⟨g,i,none⟩ = some u:=by
 obtain ⟨t,h⟩:=h;rw [cell_of_row w g i _ t (0,0) h];simpa using hi
theorem oG.fz (h:oG w g cs) (i:Nat):w.frozen? ⟨g,i,none⟩ = false:=by obtain ⟨t,h⟩:=h;simp [World.frozen?,h]
theorem oG.br (h:oG w g cs) (hk:w'.heap[g]? = w.heap[g]?):oG w' g cs:=by obtain ⟨t,h⟩:=h;exact ⟨t,hk.trans h⟩
theorem oG.put (h:oG w g cs) (i:Nat) (u:Value):oG (w.setCell ⟨g,i,none⟩ u) g (cs.set i u):=by
 obtain ⟨t,h⟩:=h;exact ⟨t,by simp [World.setCell,Array.getElem?_modify,h]⟩
theorem oG.bE (h:oG w g cs) {c:Nat} (hc:c≠g) (i:Nat) (u:Value):oG (w.setCell ⟨c,i,none⟩ u) g cs:=h.br (Below.heap_setCell _ _ _ _ bz)
theorem oG.new (w:World) (cs:List Value) (t:TypeId):oG (w.alloc (.cells cs.toArray t)) w.heap.size cs:=⟨t,heap_alloc_new w _⟩
theorem oG.ext (h:oG w g cs) (hb:Below w.heap.size w w'):oG w' g cs:=h.br (hb.block g h.lt)
theorem oG.bX {b:Nat} (h:oG w g cs) (hu:nN [b] w w') (hg:g≠b):oG w' g cs:=h.br (hu.block g h.lt (by simpa using hg))
end
theorem Te {w:World} {g:Nat} {a0 a1 a2:Value} {r:List Value} (h:oG w g (a0::a1::a2::r)):w.cell? ⟨g,0,none⟩ = some a0∧w.cell? ⟨g,1,none⟩ = some a1∧w.cell? ⟨g,2,none⟩ = some a2:=⟨h.cell (i:=0) rfl,h.cell (i:=1) rfl,h.cell (i:=2) rfl⟩
theorem d'4 {w:World} {g:Nat} {a0 a1 a2 a3:Value} {r:List Value} (h:oG w g (a0::a1::a2::a3::r)):w.cell? ⟨g,0,none⟩ = some a0∧w.cell? ⟨g,1,none⟩ = some a1∧w.cell? ⟨g,2,none⟩ = some a2∧w.cell? ⟨g,3,none⟩ = some a3:=⟨h.cell (i:=0) rfl,h.cell (i:=1) rfl,h.cell (i:=2) rfl,h.cell (i:=3) rfl⟩
theorem cM {w:World} {g:Nat} {a0 a1 a2 a3 a4 a5:Value} {r:List Value} (h:oG w g (a0::a1::a2::a3::a4::a5::r)):w.cell? ⟨g,0,none⟩ = some a0∧w.cell? ⟨g,1,none⟩ = some a1∧w.cell? ⟨g,2,none⟩ = some a2∧w.cell? ⟨g,3,none⟩ = some a3∧w.cell? ⟨g,4,none⟩ = some a4∧w.cell? ⟨g,5,none⟩ = some a5:=⟨h.cell (i:=0) rfl,h.cell (i:=1) rfl,h.cell (i:=2) rfl,h.cell (i:=3) rfl,h.cell (i:=4) rfl,h.cell (i:=5) rfl⟩
theorem mS {w:World} {g:Nat} {a0 a1 a2 a3 a4 a5 a6:Value} {r:List Value} (h:oG w g (a0::a1::a2::a3::a4::a5::a6::r)):w.cell? ⟨g,0,none⟩ = some a0∧w.cell? ⟨g,1,none⟩ = some a1∧w.cell? ⟨g,2,none⟩ = some a2∧w.cell? ⟨g,3,none⟩ = some a3∧w.cell? ⟨g,4,none⟩ = some a4∧w.cell? ⟨g,5,none⟩ = some a5∧w.cell? ⟨g,6,none⟩ = some a6:=⟨h.cell (i:=0) rfl,h.cell (i:=1) rfl,h.cell (i:=2) rfl,h.cell (i:=3) rfl,h.cell (i:=4) rfl,h.cell (i:=5) rfl,h.cell (i:=6) rfl⟩
theorem KY {w:World} {g:Nat} {a0 a1 a2 a3 a4 a5 a6 a7 a8:Value} {r:List Value} (h:oG w g (a0::a1::a2::a3::a4::a5::a6::a7::a8::r)):w.cell? ⟨g,0,none⟩ = some a0∧w.cell? ⟨g,1,none⟩ = some a1∧w.cell? ⟨g,2,none⟩ = some a2∧w.cell? ⟨g,3,none⟩ = some a3∧w.cell? ⟨g,4,none⟩ = some a4∧w.cell? ⟨g,5,none⟩ = some a5∧w.cell? ⟨g,6,none⟩ = some a6∧w.cell? ⟨g,7,none⟩ = some a7∧w.cell? ⟨g,8,none⟩ = some a8:=⟨h.cell (i:=0) rfl,h.cell (i:=1) rfl,h.cell (i:=2) rfl,h.cell (i:=3) rfl,h.cell (i:=4) rfl,h.cell (i:=5) rfl,h.cell (i:=6) rfl,h.cell (i:=7) rfl,h.cell (i:=8) rfl⟩
theorem Tf {w:World} {g:Nat} {a0 a1 a2:Value} {r:List Value} (h:oG w g (a0::a1::a2::r)):w.cell? ⟨g,0,none⟩ = some a0∧w.frozen? ⟨g,0,none⟩ = false∧w.cell? ⟨g,1,none⟩ = some a1∧w.frozen? ⟨g,1,none⟩ = false∧w.cell? ⟨g,2,none⟩ = some a2∧w.frozen? ⟨g,2,none⟩ = false:=⟨h.cell (i:=0) rfl,h.fz 0,h.cell (i:=1) rfl,h.fz 1,h.cell (i:=2) rfl,h.fz 2⟩
theorem D5 {w:World} {g:Nat} {a0 a1 a2 a3:Value} {r:List Value} (h:oG w g (a0::a1::a2::a3::r)):w.cell? ⟨g,0,none⟩ = some a0∧w.frozen? ⟨g,0,none⟩ = false∧w.cell? ⟨g,1,none⟩ = some a1∧w.frozen? ⟨g,1,none⟩ = false∧w.cell? ⟨g,2,none⟩ = some a2∧w.frozen? ⟨g,2,none⟩ = false∧w.cell? ⟨g,3,none⟩ = some a3∧w.frozen? ⟨g,3,none⟩ = false:=⟨h.cell (i:=0) rfl,h.fz 0,h.cell (i:=1) rfl,h.fz 1,h.cell (i:=2) rfl,h.fz 2,h.cell (i:=3) rfl,h.fz 3⟩
theorem lH {w:World} {g:Nat} {a0 a1 a2 a3 a4 a5:Value} {r:List Value} (h:oG w g (a0::a1::a2::a3::a4::a5::r)):w.cell? ⟨g,0,none⟩ = some a0∧w.frozen? ⟨g,0,none⟩ = false∧w.cell? ⟨g,1,none⟩ = some a1∧w.frozen? ⟨g,1,none⟩ = false∧w.cell? ⟨g,2,none⟩ = some a2∧w.frozen? ⟨g,2,none⟩ = false∧w.cell? ⟨g,3,none⟩ = some a3∧w.frozen? ⟨g,3,none⟩ = false∧w.cell? ⟨g,4,none⟩ = some a4∧w.frozen? ⟨g,4,none⟩ = false∧w.cell? ⟨g,5,none⟩ = some a5∧w.frozen? ⟨g,5,none⟩ = false:=⟨h.cell (i:=0) rfl,h.fz 0,h.cell (i:=1) rfl,h.fz 1,h.cell (i:=2) rfl,h.fz 2,h.cell (i:=3) rfl,h.fz 3,h.cell (i:=4) rfl,h.fz 4,h.cell (i:=5) rfl,h.fz 5⟩
theorem sR {w:World} {g:Nat} {a0 a1 a2 a3 a4 a5 a6:Value} {r:List Value} (h:oG w g (a0::a1::a2::a3::a4::a5::a6::r)):w.cell? ⟨g,0,none⟩ = some a0∧w.frozen? ⟨g,0,none⟩ = false∧w.cell? ⟨g,1,none⟩ = some a1∧w.frozen? ⟨g,1,none⟩ = false∧w.cell? ⟨g,2,none⟩ = some a2∧w.frozen? ⟨g,2,none⟩ = false∧w.cell? ⟨g,3,none⟩ = some a3∧w.frozen? ⟨g,3,none⟩ = false∧w.cell? ⟨g,4,none⟩ = some a4∧w.frozen? ⟨g,4,none⟩ = false∧w.cell? ⟨g,5,none⟩ = some a5∧w.frozen? ⟨g,5,none⟩ = false∧w.cell? ⟨g,6,none⟩ = some a6∧w.frozen? ⟨g,6,none⟩ = false:=⟨h.cell (i:=0) rfl,h.fz 0,h.cell (i:=1) rfl,h.fz 1,h.cell (i:=2) rfl,h.fz 2,h.cell (i:=3) rfl,h.fz 3,h.cell (i:=4) rfl,h.fz 4,h.cell (i:=5) rfl,h.fz 5,h.cell (i:=6) rfl,h.fz 6⟩
theorem K0 {w:World} {g:Nat} {a0 a1 a2 a3 a4 a5 a6 a7 a8 a9 a10 a11 a12 a13:Value} {r:List Value} (h:oG w g (a0::a1::a2::a3::a4::a5::a6::a7::a8::a9::a10::a11::a12::a13::r)):w.cell? ⟨g,0,none⟩ = some a0∧w.frozen? ⟨g,0,none⟩ = false∧w.cell? ⟨g,1,none⟩ = some a1∧w.frozen? ⟨g,1,none⟩ = false∧w.cell? ⟨g,2,none⟩ = some a2∧w.frozen? ⟨g,2,none⟩ = false∧w.cell? ⟨g,3,none⟩ = some a3∧w.frozen? ⟨g,3,none⟩ = false∧w.cell? ⟨g,4,none⟩ = some a4∧w.frozen? ⟨g,4,none⟩ = false∧w.cell? ⟨g,5,none⟩ = some a5∧w.frozen? ⟨g,5,none⟩ = false∧w.cell? ⟨g,6,none⟩ = some a6∧w.frozen? ⟨g,6,none⟩ = false∧w.cell? ⟨g,7,none⟩ = some a7∧w.frozen? ⟨g,7,none⟩ = false∧w.cell? ⟨g,8,none⟩ = some a8∧w.frozen? ⟨g,8,none⟩ = false∧w.cell? ⟨g,9,none⟩ = some a9∧w.frozen? ⟨g,9,none⟩ = false∧w.cell? ⟨g,10,none⟩ = some a10∧w.frozen? ⟨g,10,none⟩ = false∧w.cell? ⟨g,11,none⟩ = some a11∧w.frozen? ⟨g,11,none⟩ = false∧w.cell? ⟨g,12,none⟩ = some a12∧w.frozen? ⟨g,12,none⟩ = false∧w.cell? ⟨g,13,none⟩ = some a13∧w.frozen? ⟨g,13,none⟩ = false:=⟨h.cell (i:=0) rfl,h.fz 0,h.cell (i:=1) rfl,h.fz 1,h.cell (i:=2) rfl,h.fz 2,h.cell (i:=3) rfl,h.fz 3,h.cell (i:=4) rfl,h.fz 4,h.cell (i:=5) rfl,h.fz 5,h.cell (i:=6) rfl,h.fz 6,h.cell (i:=7) rfl,h.fz 7,h.cell (i:=8) rfl,h.fz 8,h.cell (i:=9) rfl,h.fz 9,h.cell (i:=10) rfl,h.fz 10,h.cell (i:=11) rfl,h.fz 11,h.cell (i:=12) rfl,h.fz 12,h.cell (i:=13) rfl,h.fz 13⟩
end Go.Proofs.YtjahcnjmjahbaaaGreat
