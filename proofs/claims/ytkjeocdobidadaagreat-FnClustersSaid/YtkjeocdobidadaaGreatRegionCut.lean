/- A region whose reads may be taken first, whose calls come one behind the other, and whose last operations wait for all of these: the reads' cells need hold only till then. No condition. -/
import Derived.Test.YtkjeocdobidadaaGreatOrdP
import Derived.Test.YtkjeocdobidadaaGreatWords
import Derived.Test.YtkjeocdobidadaaGreatKit
namespace Go.Proofs.YtkjeocdobidadaaGreat
open Go.RowKit
set_option linter.unusedVariables false
section
variable {P:Program} {ops:Array Oper} {md:Region.Mode} {C:World→Prop} {Q:Exit→Act→World→Prop}
def Lr (P:Program) (ops:Array Oper) (C:World→Prop) (Q:Exit→Act→World→Prop) (E:Act→World→Prop):List Oper→Act→World→Prop
 | [],a,w=>E a w
 | o :: rest,a,w=>if Region.wanted o (yielded ops a.tmps) then o.wp P a w (fun a' w'=>C w'∧Lr P ops C Q E rest a' w') Q else C w∧Lr P ops C Q E rest (a.put o.dst undef) w
theorem yG {E:Act→World→Prop} {a:Act} {w:World} (h:E a w):Lr P ops C Q E [] a w:=h
theorem iK {E:Act→World→Prop} {a:Act} {w:World} {o:Oper} {rest:List Oper} (hw:Region.wanted o (yielded ops a.tmps) = true)
 (h:∀K:Act→World→Prop,(∀a' w',C w'→Lr P ops C Q E rest a' w'→K a' w')→o.wp P a w K Q):Lr P ops C Q E (o :: rest) a w:=by
 unfold Lr;rw [if_pos hw];exact h _ fun a' w' h1 h2=>⟨h1,h2⟩
def V6 (P:Program) (md:Region.Mode) (ops:Array Oper) (Q:Exit→Act→World→Prop) (C:World→Prop) (E:Array Bool→Act→World→Prop):Nat→Array Bool→Act→World→Prop
 | 0,listed,a,w=>E listed a w
 | n+1,listed,a,w=>Region.ready md ops listed≠[]∧∀i∈Region.ready md ops listed,wpOp P ops Q i (fun a' w'=>C w'∧V6 P md ops Q C E n (listed.setIfInBounds i true) a' w') a w
theorem aho {m:Nat} {E:Array Bool→Act→World→Prop} (hE:∀l a w,E l a w→wpAny P md ops Q m l a w):∀(n:Nat) (listed:Array Bool) (a:Act) (w:World),V6 P md ops Q C E n listed a w→wpAny P md ops Q (m+n) listed a w
 | 0,_,_,_,h=>hE _ _ _ h
 | n+1,listed,a,w,h=>⟨fun h0=>absurd h0 h.1,fun i hi=>wpOp_mono (fun a' w' h'=>aho hE n _ a' w' h'.2) (h.2 i hi)⟩
theorem Ym:∀(l:List Oper) (ks:List Nat) (listed:Array Bool) (a:Act) (w:World),l.toArray = ops→VI md ops ks listed = true→wpList P ops Q (pick l ks) a w→wpAny P md ops Q ks.length listed a w
 | l,[],listed,a,w,hl,hB,h=>by
   simp only [VI,List.isEmpty_iff] at hB;exact ⟨hB,h⟩
 | l,k :: ks,listed,a,w,hl,hB,h=>by
   simp only [VI,Bool.and_eq_true,decide_eq_true_eq] at hB;obtain ⟨_,o,ho,_⟩:=mem_ready.1 (show k∈Region.ready md ops listed by rw [hB.1];simp);have hlo:l[k]? = some o:=(by rw [← hl] at ho;simpa using ho);simp only [pick,hlo] at h;refine ⟨fun h0=>absurd h0 (by rw [hB.1];simp),fun i hi=>?_⟩;obtain rfl:i = k:=by rw [hB.1] at hi;simpa using hi
   unfold wpOp;simp only [ho];unfold wpList at h;split
   ·rename_i hw;rw [if_pos hw] at h;rcases h with h | h
    ·exact .inl (Oper.wp_mono (fun a' w' h'=>Ym l ks _ a' w' hl hB.2 h') h)
    ·exact .inr h
   ·rename_i hw;rw [if_neg hw] at h;exact Ym l ks _ _ _ hl hB.2 h
theorem alc {E:Array Bool→Act→World→Prop} {i:Nat} {oi:Oper} {v:Value} (hi:ops[i]? = some oi) (hsel:∀(j:Nat) (o:Oper) cs b,ops[j]? = some o→o.op≠.select cs b)
 (hQ:∀c a w,Q (.panic c) (a.put oi.dst v) w→Q (.panic c) a w)
 (hg:∀l a w,E l a w→∀j∈Region.ready md ops l,∃oj,ops[j]? = some oj∧∃e∈oj.after,Region.binds md e = true∧e.on = i) :
 ∀(n:Nat) (listed:Array Bool) (a:Act) (w:World),
  (∀j oj,ops[j]? = some oj→j≠i→listed.getD j true = false→(∀e∈oj.after,Region.binds md e = true→e.on≠i)→oi.apart ops oj = true) →
  i∈Region.ready md ops listed→YieldsIf P ops C oi v a→C w →
  V6 P md ops Q C E n (listed.setIfInBounds i true) (a.put oi.dst v) w→V6 P md ops Q C E (n+1) listed a w:=by
 intro n;have waits:∀{listed:Array Bool} {j:Nat} {oj:Oper},i∈Region.ready md ops listed→j∈Region.ready md ops listed→ops[j]? = some oj→∀e∈oj.after,Region.binds md e = true→e.on≠i:=by
  intro listed j oj hr hj hoj e he hb heq;obtain ⟨_,ok,hok,hall⟩:=mem_ready.1 hj;rw [hoj] at hok;obtain rfl:=Option.some.inj hok;exact Zadd
 induction n with
 | zero =>
   intro listed a w _ hr hy hC H;refine ⟨fun h=>awy,fun j hj=>?_⟩;by_cases hji:j = i
   ·subst hji;exact hy.wpOp hi hC ⟨hC,H⟩
   ·obtain ⟨oj,hoj,e,he,hb,heq⟩:=hg _ _ _ H j (ready_mono hj hji);exact absurd heq (waits hr hj hoj e he hb)
 | succ n ih =>
   intro listed a w hfree hr hy hC H;refine ⟨fun h=>awy,fun j hj=>?_⟩;by_cases hji:j = i
   ·subst hji;exact hy.wpOp hi hC ⟨hC,H⟩
   ·have h1:=H.2 j (ready_mono hj hji);obtain ⟨hjun,oj,hoj,hall⟩:=mem_ready.1 hj;have hnot:=waits hr hj hoj;have h2:=wpOp_putIf hoj (hfree j oj hoj hji hjun hnot) (fun cs b=>hsel i oi cs b hi) (fun cs b=>hsel j oj cs b hoj) hQ hy h1
    have hfree':∀k ok,ops[k]? = some ok→k≠i→(listed.setIfInBounds j true).getD k true = false →
        (∀e∈ok.after,Region.binds md e = true→e.on≠i)→oi.apart ops ok = true:=fun k ok hk hki hun hno=>by
     refine hfree k ok hk hki ?_ hno;by_cases hjk:j = k
     ·subst hjk;exact hjun
     ·rw [getD_set_ne true hjk] at hun;exact hun
    refine wpOp_mono (fun a' w' h3=>⟨h3.2.1,ih (listed.setIfInBounds j true) a' w' hfree' (ready_mono hr (Ne.symm hji)) h3.1 h3.2.1 ?_⟩) h2;rw [Array.setIfInBounds_comm _ _ hji];exact h3.2.2
def asx (md:Region.Mode) (ops:Array Oper) (listed:Array Bool) (i:Nat):Bool:=(Region.ready md ops listed).all fun j=>match ops[j]? with | some o=>o.after.any fun e=>Region.binds md e&&e.on == i | none=>false
theorem aoT {listed:Array Bool} {i:Nat} (h:asx md ops listed i = true):∀j∈Region.ready md ops listed,∃oj,ops[j]? = some oj∧∃e∈oj.after,Region.binds md e = true∧e.on = i:=by
 intro j hj;have h1:=List.all_eq_true.1 h j hj;obtain ⟨_,oj,hoj,_⟩:=mem_ready.1 hj;simp only [hoj] at h1;obtain ⟨k,hk,h2⟩:=Array.any_eq_true.1 h1;simp only [Bool.and_eq_true,beq_iff_eq] at h2;exact ⟨oj,hoj,_,Array.getElem_mem hk,h2.1,h2.2⟩
def apE (md:Region.Mode) (ops:Array Oper):List Nat→Array Bool→Bool
 | [],_=>true
 | k :: ks,listed=>decide (Region.ready md ops listed = [k])&&apE md ops ks (listed.setIfInBounds k true)
theorem acj {E:Array Bool→Act→World→Prop} : ∀(l:List Oper) (ks:List Nat) (listed:Array Bool) (a:Act) (w:World),l.toArray = ops→apE md ops ks listed = true→Lr P ops C Q (E (zY ks listed)) (pick l ks) a w→V6 P md ops Q C E ks.length listed a w
 | l,[],listed,a,w,hl,hB,h=>h
 | l,k :: ks,listed,a,w,hl,hB,h=>by
   simp only [apE,Bool.and_eq_true,decide_eq_true_eq] at hB;obtain ⟨_,o,ho,_⟩:=mem_ready.1 (show k∈Region.ready md ops listed by rw [hB.1];simp);have hlo:l[k]? = some o:=(by rw [← hl] at ho;simpa using ho);simp only [pick,hlo] at h;refine ⟨by rw [hB.1];simp,fun i hi=>?_⟩;obtain rfl:i = k:=by rw [hB.1] at hi;simpa using hi
   unfold wpOp;simp only [ho];unfold Lr at h;have next:∀a' w',C w'∧Lr P ops C Q (E (zY (i :: ks) listed)) (pick l ks) a' w'→C w'∧V6 P md ops Q C E ks.length (listed.setIfInBounds i true) a' w':=fun a' w' hh =>
    ⟨hh.1,acj l ks _ a' w' hl hB.2 hh.2⟩
   exact Zad4
theorem ZX {E:Array Bool→Act→World→Prop} (hs:Region.noSelect ops = true) (hQ:∀c a d v w,Q (.panic c) (Act.put a d v) w→Q (.panic c) a w) {w:World} (hC:C w) (L:Array Bool) (hL:∀l a w,E l a w→l = L):∀(l:List Oper) (js:List Nat) (g:Nat) (listed:Array Bool) (a:Act),l.toArray = ops →
 VH md ops js listed = true→(js.all fun i=>asx md ops L i) = true→OQ P ops C (fun a'=>V6 P md ops Q C E g (zY js listed) a' w) (pick l js) a→V6 P md ops Q C E (g+js.length) listed a w
 | l,[],g,listed,a,hl,hB,hG,h=>h
 | l,k :: js,g,listed,a,hl,hB,hG,h=>by
   simp only [VH,Bool.and_eq_true] at hB;simp only [List.all_cons,Bool.and_eq_true] at hG;have hr:k∈Region.ready md ops listed:=(by simpa using hB.1.2);obtain ⟨_,o,ho,_⟩:=mem_ready.1 hr;have hlo:l[k]? = some o:=(by rw [← hl] at ho;simpa using ho);simp only [pick,hlo] at h;obtain ⟨v,hy,hn⟩:=h;refine alc ho (Region.noSelect_spec hs) (fun c a' w'=>hQ c a' _ v w') (fun l a w he=>by rw [hL l a w he];exact aoT hG.1) (g+js.length) listed a w (Region.free_spec ho hB.1.1) hr hy hC ?_;exact ZX hs hQ hC L hL l js g _ _ hl hB.2 hG.2 hn
def cutB (ops:Array Oper) (js ks ts:List Nat):Bool :=
 Region.noSelect ops&&decide (ts.length+(ks.length+js.length) = ops.size)&&VH .any ops js (Array.replicate ops.size false)&&apE .any ops ks (zY js (Array.replicate ops.size false))&&VI .any ops ts (zY ks (zY js (Array.replicate ops.size false)))&&js.all (fun i=>asx .any ops (zY ks (zY js (Array.replicate ops.size false))) i)
theorem uq {id:Nat} {a:Act} {w:World} {l:List Oper} (C:World→Prop) (js ks ts:List Nat) (hm:P.follows .mixedOrders = true) (hB:cutB l.toArray js ks ts = true) (hQ:∀c a d v w,Q (.panic c) (Act.put a d v) w→Q (.panic c) a w)
 (hC:C w.drew) (h:OQ P l.toArray C (fun a'=>Lr P l.toArray C Q (wpList P l.toArray Q (pick l ts)) (pick l ks) a' w.drew) (pick l js) a):(Code.region id l.toArray true).wp P Q a w:=by
 simp only [cutB,Bool.and_eq_true] at hB;obtain ⟨⟨⟨⟨⟨hs,hn⟩,hh⟩,hk⟩,ht⟩,hg⟩:=hB;rw [decide_eq_true_eq] at hn;let L:=zY ks (zY js (Array.replicate l.toArray.size false))
 let E:Array Bool→Act→World→Prop:=fun m b w'=>m = L∧wpList P l.toArray Q (pick l ts) b w'
 have mono:∀(m:List Oper) (b:Act),OQ P l.toArray C (fun a'=>Lr P l.toArray C Q (wpList P l.toArray Q (pick l ts)) (pick l ks) a' w.drew) m b →
     OQ P l.toArray C (fun a'=>V6 P .any l.toArray Q C E ks.length (zY js (Array.replicate l.toArray.size false)) a' w.drew) m b:=by
  intro m;induction m with
  | nil =>
    intro b hb;refine acj (md:=.any) l ks _ b w.drew rfl hk ?_;have e:E (zY ks (zY js (Array.replicate l.toArray.size false))) = wpList P l.toArray Q (pick l ts):=by
     funext b w';exact propext ⟨fun h=>h.2,fun h=>⟨rfl,h⟩⟩
    rw [e];exact hb
  | cons o m ih =>intro b ⟨v,hy,hb⟩;exact ⟨v,hy,ih _ hb⟩
 have h1:=ZX (md:=.any) (P:=P) (C:=C) (E:=E) hs hQ hC L (fun l a w he=>he.1) l js ks.length (Array.replicate l.toArray.size false) a rfl hh hg (mono _ _ h)
 have h2:=aho (md:=.any) (P:=P) (C:=C) (E:=E) (m:=ts.length) (fun m b w' he=>by
  obtain ⟨rfl,hl⟩:=he
  exact Ym (md:=.any) l ts _ b w' rfl ht hl) _ _ _ _ h1
 rw [hn] at h2;exact wp_region_any hm h2
end
end Go.Proofs.YtkjeocdobidadaaGreat
namespace Go.Proofs.YtkjeocdobidadaaGreat
open Go.ChangeShapes Go.WideShapes Go.ChangeAt Go.RowKit
set_option linter.unusedVariables false
set_option linter.unusedSimpArgs false
set_option maxHeartbeats 1000000
set_option maxRecDepth 100000
def acK (o:ByteArray) (c:UInt8) (k:Nat):Bool:=GL c.toNat || (o.data.toList.take k).contains c
theorem apb (o:ByteArray) (c:UInt8):acK o c 0 = GL c.toNat:=by simp [acK]
theorem apc (o:ByteArray) (c:UInt8):acK o c o.size = okB o c:=by
 unfold acK okB;rw [List.take_of_length_le (by rw [Array.length_toList];exact Nat.le_refl _)]
theorem apd {o:ByteArray} {c:UInt8} {k:Nat} (hk:k < o.size):acK o c (k+1) = (acK o c k || ((c.toNat:Int) == (o[k].toNat:Int))):=by
 have hk':k < o.data.toList.length:=by simpa using hk
 unfold acK;rw [List.take_succ_eq_append_getElem hk',List.contains_eq_any_beq,List.contains_eq_any_beq,List.any_append,Bool.or_assoc];congr 2;simp only [List.any_cons,List.any_nil,Bool.or_false,Array.getElem_toList];rw [Bool.eq_iff_iff,beq_iff_eq,beq_iff_eq,ByteArray.getElem_eq_getElem_data];constructor
 ·intro h;rw [← h]
 ·intro h;exact UInt8.toNat_inj.1 O'
theorem Wu (s o:ByteArray) (w:World) (hs2:(s.size:Int)≤1048576) (ho:(o.size:Int)≤1048576):Calls Tryz.prog 204 #[.string s,.string o] w fun e w'=>e = .returned (.bool (GN o s))∧Below w.heap.size w w':=by
 by_cases hs:0 < s.size
 ·have hz:((s.size:Int) == 0) = false:=by rw [beq_eq_false_iff_ne];omega
  cases h1:GL (s[0].toNat:Int) with
  | false =>
    have hfin:GN o s = false:=(by unfold GN;rw [DF hs,h1];simp);have HF:=I' hfin;have H1:=I' h1;clear h1 hfin;go_enter Tryz.func204,Tryz.ntmps204;go_wp2_with fail
    refine (Gm (s[0].toNat:Int) _).mono ?_;rw [H1.out];exact Zad8
  | true =>
    cases h2:GL (s[s.size - 1].toNat:Int) with
    | false =>
      have hfin:GN o s = false:=(by unfold GN;rw [DF hs,DF (show s.size - 1 < s.size by omega),h1,h2];simp);have HF:=I' hfin;have H1:=I' h1;have H2:=I' h2;clear h1 h2 hfin;go_enter Tryz.func204,Tryz.ntmps204;go_wp2_with fail
      refine (Gm (s[0].toNat:Int) _).mono ?_;rw [H1.out];rintro e w2 ⟨rfl,hw⟩;rw [hw];clear hw w2;go_wp2_with fail
      refine (Gm (s[s.size - 1].toNat:Int) _).mono ?_;rw [H2.out];exact Zad8
    | true =>
      have hfin:GN o s = s.data.toList.all (okB o):=(by unfold GN;rw [DF hs,DF (show s.size - 1 < s.size by omega),h1,h2];simp [hs]);have HF:=I' hfin;have H1:=I' h1;have H2:=I' h2;clear h1 h2 hfin;go_enter Tryz.func204,Tryz.ntmps204;go_wp2_with fail
      refine (Gm (s[0].toNat:Int) _).mono ?_;rw [H1.out];rintro e w2 ⟨rfl,hw⟩;rw [hw];clear hw w2;go_wp2_with fail
      refine (Gm (s[s.size - 1].toNat:Int) _).mono ?_;rw [H2.out];rintro e w2 ⟨rfl,hw⟩;rw [hw];clear hw w2;go_wp2_with fail
      go_loopw [5] (fun v wr=>∃(k:Nat),k≤s.size∧v = .int .i64 k∧Hid (∀j (hj:j < s.size),j < k→okB o s[j] = true)∧Below w.heap.size w wr) (fun v _=>s.size - (intOf v).toNat)
      case atStart=>exact ⟨0,Nat.zero_le _,rfl,fun j _ hj=>by omega,aj _⟩
      case round =>
       obtain ⟨k,hk,rfl,hall,hbl⟩:=hrel;by_cases hlt:k < s.size
       ·go_wp2_with fail
        refine (Gm (s[k].toNat:Int) _).mono ?_;rw [← apb o s[k]];rintro e w2 ⟨rfl,hw⟩;rw [hw];clear hw w2;go_wp2_with fail
        go_loopw [6,7] (fun v u wi=>∃(j:Nat),j≤o.size∧u = .int .i64 j∧v = .bool (acK o s[k] j)∧Below w.heap.size w wi) (fun _ u _=>o.size - (intOf u).toNat)
        case atStart=>exact ⟨0,Nat.zero_le _,rfl,rfl,hbl⟩
        case round =>
         obtain ⟨j,hj,rfl,rfl,hbi⟩:=hrel;by_cases hjl:j < o.size
         ·have HA:=I' (apd (c:=s[k]) hjl);generalize hb:acK o s[k] j = b at *;cases b
          all_goals
           clear hb;go_wp2_with fail
           refine aF _ U' U' (aj _) ?_
           repeat (first
            | (apply aG
               case hw=>rfl
               simp only [Act.put,pz])
            | (apply aH
               case hw=>rfl
               case h =>exact Zaaj
               simp only [Act.put,pz]))
           refine aN ?_;intro wn hn;replace hn:=hn.out;go_wp2;exact ⟨⟨j+1,O',N',by rw [HA.out];rfl,ah hbi hn⟩,by simp [intOf];omega⟩
         ·have hjo:j = o.size:=O';subst hjo;rw [apc];cases hok:okB o s[k] with
          | true =>have HN:=I' (X4 hlt hall.out hok);clear hok;go_wp2;exact ⟨⟨k+1,O',N',HN.out,hbi⟩,by simp [intOf];omega⟩
          | false =>
            have HG:=I' (TM hlt hok);clear hok;go_wp2;go_ret
            exact ⟨by rw [HF.out,HG.out];rfl,hbi⟩
       ·have hkl:k = s.size:=O';subst hkl;have HG:=I' (YX (p:=okB o) (fun j hj=>hall.out j hj hj));go_wp2;go_ret
        exact ⟨by rw [HF.out,HG.out];rfl,hbl⟩
 ·have hs0:s.size = 0:=by omega
  have hfin:GN o s = false:=by unfold GN;simp [hs0]
  have HF:=I' hfin;clear hfin;go_enter Tryz.func204,Tryz.ntmps204;go_wp2;go_ret
  exact ⟨by rw [HF.out];rfl,aj _⟩
def nmB (c:UInt8):Bool:=agP c.toNat || agQ c.toNat || decide ((c.toNat:Int) = 45)
def Qs (s:ByteArray):Bool:=decide (0 < s.size∧(s.size:Int)≤20)&&(!decide (((s.data.toList.getD 0 0).toNat:Int) = 45)&&!decide (((s.data.toList.getD (s.size - 1) 0).toNat:Int) = 45))&&s.data.toList.all nmB
theorem aiW (c:UInt8):(nmB c = false∧((c.toNat:Int) < 45∨(45 < (c.toNat:Int)∧(c.toNat:Int) < 48)∨(57 < (c.toNat:Int)∧(c.toNat:Int) < 65)∨(65≤(c.toNat:Int)∧(c.toNat:Int)≤90)∨(90 < (c.toNat:Int)∧(c.toNat:Int) < 97)∨122 < (c.toNat:Int))) ∨
 (nmB c = true∧((c.toNat:Int) = 45∨(48≤(c.toNat:Int)∧(c.toNat:Int)≤57)∨(97≤(c.toNat:Int)∧(c.toNat:Int)≤122))):=by
 cases h:nmB c
 ·left;refine ⟨rfl,?_⟩;unfold nmB agP agQ at h;simp at h;omega
 ·right;refine ⟨rfl,?_⟩;unfold nmB agP agQ at h;simp at h;omega
theorem amv {s:ByteArray} (hs:0 < s.size) (hl:(s.size:Int)≤20) (h0:(s[0].toNat:Int)≠45) (h1:(s[s.size - 1].toNat:Int)≠45) (ha:s.data.toList.all nmB = true):Qs s = true:=by
 unfold Qs;rw [DF hs,DF (show s.size - 1 < s.size by omega),ha];simp [hs,hl,h0,h1]
theorem aiX {s:ByteArray} (h:¬(0 < s.size∧(s.size:Int)≤20)):Qs s = false:=by unfold Qs;simp only [h,decide_false,Bool.false_and]
theorem adR {s:ByteArray} (hs:0 < s.size) (h:(s[0].toNat:Int) = 45):Qs s = false:=by unfold Qs;rw [DF hs];simp [h]
theorem agR {s:ByteArray} (hs:0 < s.size) (h:(s[s.size - 1].toNat:Int) = 45):Qs s = false:=by unfold Qs;rw [DF (show s.size - 1 < s.size by omega)];simp [h]
theorem agS {s:ByteArray} {k:Nat} (hk:k < s.size) (h:nmB s[k] = false):Qs s = false:=by unfold Qs;rw [TM hk h];simp
theorem Ro (s:ByteArray) (w:World) (hs2:(s.size:Int)≤1048576):Calls Tryz.prog 108 #[.string s] w fun e w'=>e = .returned (.bool (Qs s))∧Below w.heap.size w w':=by
 go_enter Tryz.func108,Tryz.ntmps108;go_wp2_with fail
 go_loop [7] (fun v=>∃(k:Nat),k≤s.size∧v = .int .i64 k∧Hid (∀j (hj:j < s.size),j < k→nmB s[j] = true)) (fun v=>s.size - (intOf v).toNat)
 case atStart=>exact ⟨0,Nat.zero_le _,rfl,fun j _ hj=>by omega⟩
 case round =>
  obtain ⟨k,hk,rfl,hall⟩:=hrel;by_cases hlt:k < s.size
  ·rcases aiW s[k] with ⟨hb,hr⟩ | ⟨hb,hr⟩
   ·exact Zacq
   ·have HN:=I' (X4 hlt hall.out hb);clear hb;rcases hr with hr | ⟨hr,hr2⟩ | ⟨hr,hr2⟩
    all_goals
     go_wp2;exact ⟨⟨k+1,O',N',HN.out⟩,by simp [intOf];omega⟩
  ·have hkl:k = s.size:=O';subst hkl;have ha:=I' (YX (p:=nmB) (fun j hj=>hall.out j hj hj));by_cases hln:0 < s.size∧(s.size:Int)≤20
   ·obtain ⟨hs,hl⟩:=hln;have hz:((s.size:Int) == 0) = false:=(by rw [beq_eq_false_iff_ne];omega);by_cases h0:(s[0].toNat:Int) = 45
    ·have HF:=I' (adR hs h0);skip
     exact Zaa0
    ·by_cases h1:(s[s.size - 1].toNat:Int) = 45
     ·have HF:=I' (agR hs h1);skip
      exact Zaa0
     ·have h0':((s[0].toNat:Int) != 45) = true:=(by simp [h0]);have h1':((s[s.size - 1].toNat:Int) != 45) = true:=(by simp [h1]);have h0'':((s[0].toNat:Int) == 45) = false:=(by simp [h0]);have h1'':((s[s.size - 1].toNat:Int) == 45) = false:=(by simp [h1]);have HF:=I' (amv hs hl h0 h1 ha.out);exact Zaa0
   ·have HF:=I' (aiX hln);have hln2:¬((1:Int)≤s.size∧(s.size:Int)≤20):=O';by_cases hs:0 < s.size
    ·have hz:((s.size:Int) == 0) = false:=(by rw [beq_eq_false_iff_ne];omega);have hgt:(20:Int) < s.size:=O';skip
     exact Zaa0
    ·have hs0:(s.size:Int) = 0:=O';skip
     exact Zaa0
theorem Rq (s:ByteArray) (w:World) (hs2:(s.size:Int)≤1048576):Calls Tryz.prog 129 #[.string s] w fun e w'=>e = .returned (.bool (Qs s))∧Below w.heap.size w w':=by
 by_cases hln:0 < s.size∧(s.size:Int)≤20
 ·obtain ⟨hs,hl⟩:=hln;have hz:((s.size:Int) == 0) = false:=by rw [beq_eq_false_iff_ne];omega
  by_cases h0:(s[0].toNat:Int) = 45
  ·have HF:=I' (adR hs h0);go_enter Tryz.func129,Tryz.ntmps129;exact Zaa0
  ·by_cases h1:(s[s.size - 1].toNat:Int) = 45
   ·have HF:=I' (agR hs h1);go_enter Tryz.func129,Tryz.ntmps129;exact Zaa0
   ·have h0':((s[0].toNat:Int) != 45) = true:=(by simp [h0]);have h1':((s[s.size - 1].toNat:Int) != 45) = true:=(by simp [h1]);have h0'':((s[0].toNat:Int) == 45) = false:=(by simp [h0]);have h1'':((s[s.size - 1].toNat:Int) == 45) = false:=(by simp [h1]);go_enter Tryz.func129,Tryz.ntmps129;go_wp2;go_loopw [3] (fun v wr=>∃(k:Nat),k≤s.size∧v = .int .i64 k∧Hid (∀j (hj:j < s.size),j < k→nmB s[j] = true)∧Below w.heap.size w wr) (fun v _=>s.size - (intOf v).toNat)
    case atStart=>exact ⟨0,Nat.zero_le _,rfl,(fun j _ hj=>by omega),aj _⟩
    case round =>
     obtain ⟨k,hk,rfl,hall,hbl⟩:=hrel;by_cases hlt:k < s.size
     ·rcases aiW s[k] with ⟨hb,hr⟩ | ⟨hb,hr⟩
      ·exact Zacq
      ·have HN:=I' (X4 hlt hall.out hb);clear hb;rcases hr with hr | ⟨hr,hr2⟩ | ⟨hr,hr2⟩
       all_goals
        go_wp2;exact ⟨⟨k+1,O',N',HN.out,hbl⟩,by simp [intOf];omega⟩
     ·have hkl:k = s.size:=O';subst hkl;have ha:=I' (YX (p:=nmB) (fun j hj=>hall.out j hj hj));have HF:=I' (amv hs hl h0 h1 ha.out);exact Zaa0
 ·have HF:=I' (aiX hln);have hln2:¬((1:Int)≤s.size∧(s.size:Int)≤20):=by omega
  by_cases hs:0 < s.size
  ·have hz:((s.size:Int) == 0) = false:=(by rw [beq_eq_false_iff_ne];omega);have hgt:(20:Int) < s.size:=O';go_enter Tryz.func129,Tryz.ntmps129;exact Zaa0
  ·have hs0:(s.size:Int) = 0:=O';go_enter Tryz.func129,Tryz.ntmps129;exact Zaa0
end Go.Proofs.YtkjeocdobidadaaGreat
