/- NameOk, of the program and of the reference. No condition. -/
import Derived.Test.YtajbbmembionpaaGreatRegionIx
namespace Go.Proofs.YtajbbmembionpaaGreat
open Go.ChangeShapes Go.WideShapes Go.ChangeAt Go.RowKit
set_option linter.unusedVariables false
set_option linter.unusedSimpArgs false
set_option maxHeartbeats 1000000
set_option maxRecDepth 100000
def so (c:UInt8):Bool:=LW c.toNat || LX c.toNat || decide ((c.toNat:Int) = 45)
def Qs (s:ByteArray):Bool:=decide (0 < s.size∧(s.size:Int)≤20)&&(!decide (((s.data.toList.getD 0 0).toNat:Int) = 45)&&!decide (((s.data.toList.getD (s.size - 1) 0).toNat:Int) = 45))&&s.data.toList.all so
theorem WO (c:UInt8):(so c = false∧((c.toNat:Int) < 45∨(45 < (c.toNat:Int)∧(c.toNat:Int) < 48)∨(57 < (c.toNat:Int)∧(c.toNat:Int) < 65)∨(65≤(c.toNat:Int)∧(c.toNat:Int)≤90)∨(90 < (c.toNat:Int)∧(c.toNat:Int) < 97)∨122 < (c.toNat:Int))) ∨
 (so c = true∧((c.toNat:Int) = 45∨(48≤(c.toNat:Int)∧(c.toNat:Int)≤57)∨(97≤(c.toNat:Int)∧(c.toNat:Int)≤122))):=by
 cases h:so c
 ·left;refine ⟨rfl,?_⟩;unfold so LW LX at h;simp at h;omega
 ·right;refine ⟨rfl,?_⟩;unfold so LW LX at h;simp at h;omega
theorem WQ {s:ByteArray} (hs:0 < s.size) (hl:(s.size:Int)≤20) (h0:(s[0].toNat:Int)≠45) (h1:(s[s.size - 1].toNat:Int)≠45) (ha:s.data.toList.all so = true):Qs s = true:=by
 unfold Qs;rw [DF hs,DF (show s.size - 1 < s.size by omega),ha];simp [hs,hl,h0,h1]
theorem WR {s:ByteArray} (h:¬(0 < s.size∧(s.size:Int)≤20)):Qs s = false:=by unfold Qs;simp only [h,decide_false,Bool.false_and]
theorem WS {s:ByteArray} (hs:0 < s.size) (h:(s[0].toNat:Int) = 45):Qs s = false:=by unfold Qs;rw [DF hs];simp [h]
theorem WW {s:ByteArray} (hs:0 < s.size) (h:(s[s.size - 1].toNat:Int) = 45):Qs s = false:=by unfold Qs;rw [DF (show s.size - 1 < s.size by omega)];simp [h]
theorem WX {s:ByteArray} {k:Nat} (hk:k < s.size) (h:so s[k] = false):Qs s = false:=by unfold Qs;rw [TM hk h];simp
theorem Rq (s:ByteArray) (w:World) (cR:(s.size:Int)≤1048576):Calls Tryz.prog 81 #[.string s] w fun e w'=>e = .returned (.bool (Qs s))∧Below w.heap.size w w':=by
 by_cases sg:0 < s.size∧(s.size:Int)≤20
 ·obtain ⟨hs,hl⟩:=sg;have hz:((s.size:Int) == 0) = false:=by rw [beq_eq_false_iff_ne];omega
  by_cases h0:(s[0].toNat:Int) = 45
  ·have HF:=I (WS hs h0);go_enter Tryz.func81,Tryz.ntmps81;exact ej
  ·by_cases h1:(s[s.size - 1].toNat:Int) = 45
   ·have HF:=I (WW hs h1);go_enter Tryz.func81,Tryz.ntmps81;exact ej
   ·have h0':((s[0].toNat:Int) != 45) = true:=(by simp [h0]);have WY:((s[s.size - 1].toNat:Int) != 45) = true:=(by simp [h1]);have WZ:((s[0].toNat:Int) == 45) = false:=(by simp [h0]);have W0:((s[s.size - 1].toNat:Int) == 45) = false:=(by simp [h1]);go_enter Tryz.func81,Tryz.ntmps81;go_wp2;go_loopw [3] (fun v wr=>∃(k:Nat),k≤s.size∧v = .int .i64 k∧Hid (∀j (hj:j < s.size),j < k→so s[j] = true)∧Below w.heap.size w wr) (fun v _=>s.size - (intOf v).toNat)
    case atStart=>exact ⟨0,Nat.zero_le _,rfl,(fun j _ hj=>by omega),aj _⟩
    case round =>
     obtain ⟨k,hk,rfl,hall,aR⟩:=hrel;by_cases ax:k < s.size
     ·rcases WO s[k] with ⟨X,hr⟩ | ⟨X,hr⟩
      ·have HF:=I (WX ax X);clear X;rcases hr with hr | ⟨hr,gx⟩ | ⟨hr,gx⟩ | ⟨hr,gx⟩ | ⟨hr,gx⟩ | hr
       all_goals
        have b4:((s[k].toNat:Int) != 45) = true:=(by simp;omega);have tC:((s[k].toNat:Int) == 45) = false:=(by simp;omega);go_wp2
        all_goals first
         | (go_ret;exact ⟨by rw [HF.out];rfl,bJ⟩)
         | (exfalso;rename_i hx;simp at hx;omega)
      ·have HN:=I (X4 ax hall.out X);clear X;rcases hr with hr | ⟨hr,gx⟩ | ⟨hr,gx⟩
       all_goals
        go_wp2;exact ⟨⟨k+1,J,N',HN.out,aR⟩,by simp [intOf];omega⟩
     ·have bF:k = s.size:=J;subst bF;have ha:=I (YX (p:=so) (fun j hj=>hall.out j hj hj));have HF:=I (WQ hs hl h0 h1 ha.out);exact ej
 ·have HF:=I (WR sg);have W1:¬((1:Int)≤s.size∧(s.size:Int)≤20):=by omega
  by_cases hs:0 < s.size
  ·have hz:((s.size:Int) == 0) = false:=(by rw [beq_eq_false_iff_ne];omega);have hgt:(20:Int) < s.size:=J;go_enter Tryz.func81,Tryz.ntmps81;exact ej
  ·have jz:(s.size:Int) = 0:=J;go_enter Tryz.func81,Tryz.ntmps81;exact ej
def tB (o:ByteArray) (c:UInt8) (k:Nat):Bool:=GL c.toNat || (o.data.toList.take k).contains c
theorem Wm (o:ByteArray) (c:UInt8):tB o c 0 = GL c.toNat:=by simp [tB]
theorem Wo (o:ByteArray) (c:UInt8):tB o c o.size = m' o c:=by
 unfold tB m';rw [List.take_of_length_le (by rw [Array.length_toList];exact Nat.le_refl _)]
theorem Wq {o:ByteArray} {c:UInt8} {k:Nat} (hk:k < o.size):tB o c (k+1) = (tB o c k || ((c.toNat:Int) == (o[k].toNat:Int))):=by
 have fX:k < o.data.toList.length:=by simpa using hk
 unfold tB;rw [List.take_succ_eq_append_getElem fX,List.contains_eq_any_beq,List.contains_eq_any_beq,List.any_append,Bool.or_assoc];congr 2;simp only [List.any_cons,List.any_nil,Bool.or_false,Array.getElem_toList];rw [Bool.eq_iff_iff,beq_iff_eq,beq_iff_eq,ByteArray.getElem_eq_getElem_data];constructor
 ·intro h;rw [← h]
 ·intro h;exact UInt8.toNat_inj.1 J
theorem Wu (s o:ByteArray) (w:World) (cR:(s.size:Int)≤1048576) (ho:(o.size:Int)≤1048576):Calls Tryz.prog 152 #[.string s,.string o] w fun e w'=>e = .returned (.bool (GN o s))∧Below w.heap.size w w':=by
 by_cases hs:0 < s.size
 ·have hz:((s.size:Int) == 0) = false:=by rw [beq_eq_false_iff_ne];omega
  cases h1:GL (s[0].toNat:Int) with
  | false =>
    have bi:GN o s = false:=(by unfold GN;rw [DF hs,h1];simp);have HF:=I bi;have H1:=I h1;clear h1 bi;go_enter Tryz.func152,Tryz.ntmps152;go_wp2_with fail
    refine (Gm (s[0].toNat:Int) _).mono ?_;rw [H1.out];exact DP
  | true =>
    cases h2:GL (s[s.size - 1].toNat:Int) with
    | false =>
      have bi:GN o s = false:=(by unfold GN;rw [DF hs,DF (show s.size - 1 < s.size by omega),h1,h2];simp);have HF:=I bi;have H1:=I h1;have H2:=I h2;clear h1 h2 bi;go_enter Tryz.func152,Tryz.ntmps152;go_wp2_with fail
      refine (Gm (s[0].toNat:Int) _).mono ?_;rw [H1.out];rintro e w2 ⟨rfl,hw⟩;rw [hw];clear hw w2;go_wp2_with fail
      refine (Gm (s[s.size - 1].toNat:Int) _).mono ?_;rw [H2.out];exact DP
    | true =>
      have bi:GN o s = s.data.toList.all (m' o):=(by unfold GN;rw [DF hs,DF (show s.size - 1 < s.size by omega),h1,h2];simp [hs]);have HF:=I bi;have H1:=I h1;have H2:=I h2;clear h1 h2 bi;go_enter Tryz.func152,Tryz.ntmps152;go_wp2_with fail
      refine (Gm (s[0].toNat:Int) _).mono ?_;rw [H1.out];rintro e w2 ⟨rfl,hw⟩;rw [hw];clear hw w2;go_wp2_with fail
      refine (Gm (s[s.size - 1].toNat:Int) _).mono ?_;rw [H2.out];rintro e w2 ⟨rfl,hw⟩;rw [hw];clear hw w2;go_wp2_with fail
      go_loopw [5] (fun v wr=>∃(k:Nat),k≤s.size∧v = .int .i64 k∧Hid (∀j (hj:j < s.size),j < k→m' o s[j] = true)∧Below w.heap.size w wr) (fun v _=>s.size - (intOf v).toNat)
      case atStart=>exact ⟨0,Nat.zero_le _,rfl,fun j _ hj=>by omega,aj _⟩
      case round =>
       obtain ⟨k,hk,rfl,hall,aR⟩:=hrel;by_cases ax:k < s.size
       ·go_wp2_with fail
        refine (Gm (s[k].toNat:Int) _).mono ?_;rw [← Wm o s[k]];rintro e w2 ⟨rfl,hw⟩;rw [hw];clear hw w2;go_wp2_with fail
        go_loopw [6,7] (fun v u wi=>∃(j:Nat),j≤o.size∧u = .int .i64 j∧v = .bool (tB o s[k] j)∧Below w.heap.size w wi) (fun _ u _=>o.size - (intOf u).toNat)
        case atStart=>exact ⟨0,Nat.zero_le _,rfl,rfl,aR⟩
        case round =>
         obtain ⟨j,hj,rfl,rfl,hbi⟩:=hrel;by_cases mW:j < o.size
         ·have HA:=I (Wq (c:=s[k]) mW);generalize X:tB o s[k] j = b at *;cases b
          all_goals
           clear X;go_wp2_with fail
           refine aF _ U' U' (aj _) ?_
           repeat ((first | refine aG O ?_ | refine aH _ O dz ?_);simp only [Act.put,pz])
           refine aN ?_;intro wn Z;replace Z:=Z.out;go_wp2;exact ⟨⟨j+1,J,N',by rw [HA.out];rfl,ah hbi Z⟩,by simp [intOf];omega⟩
         ·have L0:j = o.size:=J;subst L0;rw [Wo];cases gU:m' o s[k] with
          | true =>have HN:=I (X4 ax hall.out gU);clear gU;go_wp2;exact ⟨⟨k+1,J,N',HN.out,hbi⟩,by simp [intOf];omega⟩
          | false =>
            have HG:=I (TM ax gU);clear gU;go_wp2;go_ret
            exact ⟨by rw [HF.out,HG.out];rfl,hbi⟩
       ·have bF:k = s.size:=J;subst bF;have HG:=I (YX (p:=m' o) (fun j hj=>hall.out j hj hj));go_wp2;go_ret
        exact ⟨by rw [HF.out,HG.out];rfl,aR⟩
 ·have jz:s.size = 0:=by omega
  have bi:GN o s = false:=by unfold GN;simp [jz]
  have HF:=I bi;clear bi;go_enter Tryz.func152,Tryz.ntmps152;go_wp2;go_ret
  exact ⟨by rw [HF.out];rfl,aj _⟩
section
variable {P:Program} {ops:Array Oper} {md:Region.Mode} {C:World→Prop} {Q:Exit→Act→World→Prop}
def Lr (P:Program) (ops:Array Oper) (C:World→Prop) (Q:Exit→Act→World→Prop) (E:Act→World→Prop):List Oper→Act→World→Prop
 | [],a,w=>E a w
 | o :: rest,a,w=>if Region.wanted o (yielded ops a.tmps) then o.wp P a w (fun a' w'=>C w'∧Lr P ops C Q E rest a' w') Q else C w∧Lr P ops C Q E rest (a.put o.dst undef) w
theorem yG {E:Act→World→Prop} {a:Act} {w:World} (h:E a w):Lr P ops C Q E [] a w:=h
theorem iK {E:Act→World→Prop} {a:Act} {w:World} {o:Oper} {rest:List Oper} (hw:Region.wanted o (yielded ops a.tmps) = true)
 (h:∀K:Act→World→Prop,(∀a' w',C w'→Lr P ops C Q E rest a' w'→K a' w')→o.wp P a w K Q):Lr P ops C Q E (o :: rest) a w:=by
 unfold Lr;rw [if_pos hw];exact h _ fun a' w' h1 h2=>⟨h1,h2⟩
def V6 (P:Program) (md:Region.Mode) (ops:Array Oper) (Q:Exit→Act→World→Prop) (C:World→Prop) (E:Array Bool→Act→World→Prop):Nat→Array Bool→Act→World→Prop
 | 0,al,a,w=>E al a w
 | n+1,al,a,w=>Region.ready md ops al≠[]∧∀i∈Region.ready md ops al,wpOp P ops Q i (fun a' w'=>C w'∧V6 P md ops Q C E n (al.setIfInBounds i true) a' w') a w
theorem Kc {m:Nat} {E:Array Bool→Act→World→Prop} (hE:∀l a w,E l a w→wpAny P md ops Q m l a w):∀(n:Nat) (al:Array Bool) (a:Act) (w:World),V6 P md ops Q C E n al a w→wpAny P md ops Q (m+n) al a w
 | 0,_,_,_,h=>hE _ _ _ h
 | n+1,al,a,w,h=>⟨fun h0=>absurd h0 h.1,fun i hi=>wpOp_mono (fun a' w' h'=>Kc hE n _ a' w' h'.2) (h.2 i hi)⟩
theorem Ym:∀(l:List Oper) (ks:List Nat) (al:Array Bool) (a:Act) (w:World),l.toArray = ops→VI md ops ks al = true→wpList P ops Q (d9 l ks) a w→wpAny P md ops Q ks.length al a w
 | l,[],al,a,w,hl,hB,h=>by
   simp only [VI,List.isEmpty_iff] at hB;exact ⟨hB,h⟩
 | l,k :: ks,al,a,w,hl,hB,h=>by
   simp only [VI,Bool.and_eq_true,decide_eq_true_eq] at hB;obtain ⟨_,o,ho,_⟩:=mem_ready.1 (show k∈Region.ready md ops al by rw [hB.1];simp);have yI:l[k]? = some o:=(by rw [← hl] at ho;simpa using ho);simp only [d9,yI] at h;refine ⟨fun h0=>absurd h0 (by rw [hB.1];simp),fun i hi=>?_⟩;obtain rfl:i = k:=by rw [hB.1] at hi;simpa using hi
   unfold wpOp;simp only [ho];unfold wpList at h;split
   ·rename_i hw;rw [if_pos hw] at h;rcases h with h | h
    ·exact .inl (Oper.wp_mono (fun a' w' h'=>Ym l ks _ a' w' hl hB.2 h') h)
    ·exact .inr h
   ·rename_i hw;rw [if_neg hw] at h;exact Ym l ks _ _ _ hl hB.2 h
theorem Rn {E:Array Bool→Act→World→Prop} {i:Nat} {oi:Oper} {v:Value} (hi:ops[i]? = some oi) (qd:∀(j:Nat) (o:Oper) cs b,ops[j]? = some o→o.op≠.select cs b)
 (hQ:∀c a w,Q (.panic c) (a.put oi.dst v) w→Q (.panic c) a w)
 (hg:∀l a w,E l a w→∀j∈Region.ready md ops l,∃oj,ops[j]? = some oj∧∃e∈oj.after,Region.binds md e = true∧e.on = i) :
 ∀(n:Nat) (al:Array Bool) (a:Act) (w:World),
  (∀j oj,ops[j]? = some oj→j≠i→al.getD j true = false→(∀e∈oj.after,Region.binds md e = true→e.on≠i)→oi.apart ops oj = true) →
  i∈Region.ready md ops al→YieldsIf P ops C oi v a→C w →
  V6 P md ops Q C E n (al.setIfInBounds i true) (a.put oi.dst v) w→V6 P md ops Q C E (n+1) al a w:=by
 intro n;have uL:∀{al:Array Bool} {j:Nat} {oj:Oper},i∈Region.ready md ops al→j∈Region.ready md ops al→ops[j]? = some oj→∀e∈oj.after,Region.binds md e = true→e.on≠i:=by
  intro al j oj hr hj lH e he X I0;obtain ⟨_,ok,gU,hall⟩:=mem_ready.1 hj;rw [lH] at gU;obtain rfl:=Option.some.inj gU;exact Dr
 induction n with
 | zero =>
   intro al a w _ hr hy hC H;refine ⟨fun h=>Jb,fun j hj=>?_⟩;by_cases lE:j = i
   ·subst lE;exact hy.wpOp hi hC ⟨hC,H⟩
   ·obtain ⟨oj,lH,e,he,X,I0⟩:=hg _ _ _ H j (ready_mono hj lE);exact absurd I0 (uL hr hj lH e he X)
 | succ n ih =>
   intro al a w l0 hr hy hC H;refine ⟨fun h=>Jb,fun j hj=>?_⟩;by_cases lE:j = i
   ·subst lE;exact hy.wpOp hi hC ⟨hC,H⟩
   ·have h1:=H.2 j (ready_mono hj lE);obtain ⟨qe,oj,lH,hall⟩:=mem_ready.1 hj;have qg:=uL hr hj lH;have h2:=wpOp_putIf lH (l0 j oj lH lE qe qg) (fun cs b=>qd i oi cs b hi) (fun cs b=>qd j oj cs b lH) hQ hy h1
    have yJ:∀k ok,ops[k]? = some ok→k≠i→(al.setIfInBounds j true).getD k true = false →
        (∀e∈ok.after,Region.binds md e = true→e.on≠i)→oi.apart ops ok = true:=fun k ok hk nU AH qh=>by
     refine l0 k ok hk nU ?_ qh;by_cases gl:j = k
     ·subst gl;exact qe
     ·rw [getD_set_ne true gl] at AH;exact AH
    refine wpOp_mono (fun a' w' h3=>⟨h3.2.1,ih (al.setIfInBounds j true) a' w' yJ (ready_mono hr (Ne.symm lE)) h3.1 h3.2.1 ?_⟩) h2;rw [Array.setIfInBounds_comm _ _ lE];exact h3.2.2
def Fc (md:Region.Mode) (ops:Array Oper) (al:Array Bool) (i:Nat):Bool:=(Region.ready md ops al).all fun j=>match ops[j]? with | some o=>o.after.any fun e=>Region.binds md e&&e.on == i | none=>false
theorem Ro {al:Array Bool} {i:Nat} (h:Fc md ops al i = true):∀j∈Region.ready md ops al,∃oj,ops[j]? = some oj∧∃e∈oj.after,Region.binds md e = true∧e.on = i:=by
 intro j hj;have h1:=List.all_eq_true.1 h j hj;obtain ⟨_,oj,lH,_⟩:=mem_ready.1 hj;simp only [lH] at h1;obtain ⟨k,hk,h2⟩:=Array.any_eq_true.1 h1;simp only [Bool.and_eq_true,beq_iff_eq] at h2;exact ⟨oj,lH,_,Array.getElem_mem hk,h2.1,h2.2⟩
def Fd (md:Region.Mode) (ops:Array Oper):List Nat→Array Bool→Bool
 | [],_=>true
 | k :: ks,al=>decide (Region.ready md ops al = [k])&&Fd md ops ks (al.setIfInBounds k true)
theorem Mu {E:Array Bool→Act→World→Prop} : ∀(l:List Oper) (ks:List Nat) (al:Array Bool) (a:Act) (w:World),l.toArray = ops→Fd md ops ks al = true→Lr P ops C Q (E (zY ks al)) (d9 l ks) a w→V6 P md ops Q C E ks.length al a w
 | l,[],al,a,w,hl,hB,h=>h
 | l,k :: ks,al,a,w,hl,hB,h=>by
   simp only [Fd,Bool.and_eq_true,decide_eq_true_eq] at hB;obtain ⟨_,o,ho,_⟩:=mem_ready.1 (show k∈Region.ready md ops al by rw [hB.1];simp);have yI:l[k]? = some o:=(by rw [← hl] at ho;simpa using ho);simp only [d9,yI] at h;refine ⟨by rw [hB.1];simp,fun i hi=>?_⟩;obtain rfl:i = k:=by rw [hB.1] at hi;simpa using hi
   unfold wpOp;simp only [ho];unfold Lr at h;have next:∀a' w',C w'∧Lr P ops C Q (E (zY (i :: ks) al)) (d9 l ks) a' w'→C w'∧V6 P md ops Q C E ks.length (al.setIfInBounds i true) a' w':=fun a' w' hh =>
    ⟨hh.1,Mu l ks _ a' w' hl hB.2 hh.2⟩
   split
   ·rename_i hw;rw [if_pos hw] at h;exact .inl (Oper.wp_mono next h)
   ·rename_i hw;rw [if_neg hw] at h;exact next _ _ h
theorem ZX {E:Array Bool→Act→World→Prop} (hs:Region.noSelect ops = true) (hQ:∀c a d v w,Q (.panic c) (Act.put a d v) w→Q (.panic c) a w) {w:World} (hC:C w) (L:Array Bool) (hL:∀l a w,E l a w→l = L):∀(l:List Oper) (js:List Nat) (g:Nat) (al:Array Bool) (a:Act),l.toArray = ops →
 VH md ops js al = true→(js.all fun i=>Fc md ops L i) = true→OQ P ops C (fun a'=>V6 P md ops Q C E g (zY js al) a' w) (d9 l js) a→V6 P md ops Q C E (g+js.length) al a w
 | l,[],g,al,a,hl,hB,hG,h=>h
 | l,k :: js,g,al,a,hl,hB,hG,h=>by
   simp only [VH,Bool.and_eq_true] at hB;simp only [List.all_cons,Bool.and_eq_true] at hG;have hr:k∈Region.ready md ops al:=(by simpa using hB.1.2);obtain ⟨_,o,ho,_⟩:=mem_ready.1 hr;have yI:l[k]? = some o:=(by rw [← hl] at ho;simpa using ho);simp only [d9,yI] at h;obtain ⟨v,hy,Z⟩:=h;refine Rn ho (Region.noSelect_spec hs) (fun c a' w'=>hQ c a' _ v w') (fun l a w he=>by rw [hL l a w he];exact Ro hG.1) (g+js.length) al a w (Region.free_spec ho hB.1.1) hr hy hC ?_;exact ZX hs hQ hC L hL l js g _ _ hl hB.2 hG.2 Z
def Fe (ops:Array Oper) (js ks ts:List Nat):Bool :=
 Region.noSelect ops&&decide (ts.length+(ks.length+js.length) = ops.size)&&VH .any ops js (Array.replicate ops.size false)&&Fd .any ops ks (zY js (Array.replicate ops.size false))&&VI .any ops ts (zY ks (zY js (Array.replicate ops.size false)))&&js.all (fun i=>Fc .any ops (zY ks (zY js (Array.replicate ops.size false))) i)
theorem uq {id:Nat} {a:Act} {w:World} {l:List Oper} (C:World→Prop) (js ks ts:List Nat) (hm:P.follows .mixedOrders = true) (hB:Fe l.toArray js ks ts = true) (hQ:∀c a d v w,Q (.panic c) (Act.put a d v) w→Q (.panic c) a w)
 (hC:C w.drew) (h:OQ P l.toArray C (fun a'=>Lr P l.toArray C Q (wpList P l.toArray Q (d9 l ts)) (d9 l ks) a' w.drew) (d9 l js) a):(Code.region id l.toArray true).wp P Q a w:=by
 simp only [Fe,Bool.and_eq_true] at hB;obtain ⟨⟨⟨⟨⟨hs,Z⟩,hh⟩,hk⟩,ht⟩,hg⟩:=hB;rw [decide_eq_true_eq] at Z;let L:=zY ks (zY js (Array.replicate l.toArray.size false))
 let E:Array Bool→Act→World→Prop:=fun m b w'=>m = L∧wpList P l.toArray Q (d9 l ts) b w'
 have mono:∀(m:List Oper) (b:Act),OQ P l.toArray C (fun a'=>Lr P l.toArray C Q (wpList P l.toArray Q (d9 l ts)) (d9 l ks) a' w.drew) m b →
     OQ P l.toArray C (fun a'=>V6 P .any l.toArray Q C E ks.length (zY js (Array.replicate l.toArray.size false)) a' w.drew) m b:=by
  intro m;induction m with
  | nil =>
    intro b X;refine Mu (md:=.any) l ks _ b w.drew rfl hk ?_;have e:E (zY ks (zY js (Array.replicate l.toArray.size false))) = wpList P l.toArray Q (d9 l ts):=by
     funext b w';exact propext ⟨fun h=>h.2,fun h=>⟨rfl,h⟩⟩
    rw [e];exact X
  | cons o m ih =>intro b ⟨v,hy,X⟩;exact ⟨v,hy,ih _ X⟩
 have h1:=ZX (md:=.any) (P:=P) (C:=C) (E:=E) hs hQ hC L (fun l a w he=>he.1) l js ks.length (Array.replicate l.toArray.size false) a rfl hh hg (mono _ _ h)
 have h2:=Kc (md:=.any) (P:=P) (C:=C) (E:=E) (m:=ts.length) (fun m b w' he=>by
  obtain ⟨rfl,hl⟩:=he
  exact Ym (md:=.any) l ts _ b w' rfl ht hl) _ _ _ _ h1
 rw [Z] at h2;exact wp_region_any hm h2
end
end Go.Proofs.YtajbbmembionpaaGreat
