/- The words of labels and names, of the program and of the reference. No condition. -/
import Derived.Test.YtkbkikggodlbbaaGreatKit
import Derived.Lib.IndexAny
import Derived.Test.YtkbkikggodlbbaaGreatOrdP
import Derived.Test.YtkbkikggodlbbaaGreatEq
namespace Go.Proofs.YtkbkikggodlbbaaGreat
open Go.ChangeShapes Go.WideShapes Go.ChangeAt Go.RowKit
set_option linter.unusedVariables false
set_option linter.unusedSimpArgs false
set_option maxHeartbeats 1000000
set_option maxRecDepth 100000
def GL (c:Int):Bool:=decide (97≤c)&&decide (c≤122) || decide (65≤c)&&decide (c≤90) || decide (48≤c)&&decide (c≤57)
def agP (c:Int):Bool:=decide (97≤c)&&decide (c≤122)
def agQ (c:Int):Bool:=decide (48≤c)&&decide (c≤57)
def okB (o:ByteArray) (c:UInt8):Bool:=GL c.toNat || o.data.toList.contains c
def GN (o s:ByteArray):Bool:=decide (0 < s.size)&&(GL (s.data.toList.getD 0 0).toNat&&GL (s.data.toList.getD (s.size - 1) 0).toNat)&&s.data.toList.all (okB o)
theorem DF {s:ByteArray} {k:Nat} (h:k < s.size):s.data.toList.getD k 0 = s[k]:=by
 have h':k < s.data.size:=h;rw [List.getD_eq_getElem?_getD,List.getElem?_eq_getElem (by simpa using h')];simp [ByteArray.getElem_eq_getElem_data]
theorem YX {s:ByteArray} {p:UInt8→Bool} (h:∀j (hj:j < s.size),p s[j] = true):s.data.toList.all p = true:=by
 rw [List.all_eq_true];intro x hx;obtain ⟨j,hj,rfl⟩:=List.getElem_of_mem hx;have hj':j < s.size:=by simpa using hj
 have:=h j hj';simpa [ByteArray.getElem_eq_getElem_data] using this
theorem TM {s:ByteArray} {p:UInt8→Bool} {k:Nat} (hk:k < s.size) (h:p s[k] = false):s.data.toList.all p = false:=by
 rw [List.all_eq_false];have hk':k < s.data.size:=hk;refine ⟨s.data.toList[k]'(by simpa using hk'),List.getElem_mem _,?_⟩;simp only [Array.getElem_toList];rw [ByteArray.getElem_eq_getElem_data] at h;simp [h]
theorem X4 {s:ByteArray} {p:UInt8→Bool} {k:Nat} (hlt:k < s.size) (h:∀j (hj:j < s.size),j < k→p s[j] = true) (hp:p s[k] = true):∀j (hj:j < s.size),j < k+1→p s[j] = true:=fun j hj hjk=>by
 rcases Nat.lt_or_ge j k with h1 | h1
 ·exact h j hj h1
 ·obtain rfl:j = k:=by omega
  exact hp
theorem apP (c:UInt8):((c.toNat:Int)).toNat.toUInt8 = c:=by simp
theorem IL (c:Int) (w:World):Calls Tryz.prog 200 #[.int .u8 c] w fun e w'=>e = .returned (.bool (GL c))∧w' = w:=by
 go_enter Tryz.func200,Tryz.ntmps200;exact Zac9
theorem Gm (c:Int) (w:World):Calls Tryz.prog 143 #[.int .u8 c] w fun e w'=>e = .returned (.bool (GL c))∧w' = w:=by
 go_enter Tryz.func143,Tryz.ntmps143;exact Zac9
theorem Q7 (s:ByteArray) (c:Int) (w:World):Calls Tryz.prog 243 #[.string s,.int .u8 c] w fun e w'=>e = .returned (.int .i64 (Lib.indexByte s.data.toList c.toNat.toUInt8))∧w' = w:=by
 go_enter Tryz.func243,Tryz.ntmps243;go_wp2;rw [run_callFunc_extern Tryz.func260 U' U' U' (e:=Extern.BytealgIndexByte.indexByte) U',Lib.run_indexByteString];simp only [Result.andThen];rw [Oper.upon_value];go_wp2;go_ret
 exact ⟨rfl,rfl⟩
theorem aai (s:ByteArray) (c:Int) (w:World):Calls Tryz.prog 202 #[.string s,.int .u8 c] w fun e w'=>e = .returned (.int .i64 (Lib.indexByte s.data.toList c.toNat.toUInt8))∧w' = w:=by
 go_enter Tryz.func202,Tryz.ntmps202;go_wp2_with fail
 refine (Q7 s c _).mono ?_;rintro e w' ⟨rfl,rfl⟩;go_wp2;go_ret
 exact ⟨rfl,rfl⟩
theorem aef (s o:ByteArray) (w:World) (hs:0 < s.size) (hs2:(s.size:Int)≤1048576):Calls Tryz.prog 185 #[.string s,.string o] w fun e w'=>e = .returned (.bool (GN o s))∧w' = w:=by
 go_enter Tryz.func185,Tryz.ntmps185;go_wp2_with fail
 go_loop [9] (fun v=>∃(k:Nat),k≤s.size∧v = .int .i64 k∧Hid (∀j (hj:j < s.size),j < k→okB o s[j] = true)) (fun v=>s.size - (intOf v).toNat)
 case atStart=>exact ⟨0,Nat.zero_le _,rfl,fun j _ hj=>by omega⟩
 case round =>
  obtain ⟨k,hk,rfl,hall⟩:=hrel;by_cases hlt:k < s.size
  ·cases h1:GL (s[k].toNat:Int) with
   | true =>
     have hok:okB o s[k] = true:=(by unfold okB;rw [h1];rfl);have H1:=I' h1;have HN:=I' (X4 hlt hall.out hok);clear h1 hok;go_wp2_with (go_at_call 200;refine (IL (s[k].toNat:Int) _).mono ?_;rw [H1.out];rintro e w2 ⟨rfl,rfl⟩)
     exact ⟨⟨k+1,O',N',HN.out⟩,by simp [intOf];omega⟩
   | false =>
     have hci:=Lib.contains_iff_indexByte o.data.toList s[k];cases h2:o.data.toList.contains s[k] with
     | true =>
       rw [h2] at hci;have hge:0≤Lib.indexByte o.data.toList ((s[k].toNat:Int)).toNat.toUInt8:=(by rw [apP];simpa using hci.symm);have hok:okB o s[k] = true:=(by unfold okB;rw [h2];simp);have H1:=I' h1;have HN:=I' (X4 hlt hall.out hok);clear h1 h2 hci hok;generalize hgi:Lib.indexByte o.data.toList ((s[k].toNat:Int)).toNat.toUInt8 = gi at *;have HGI:=I' hgi;clear hgi;go_wp2_with (first | (go_at_call 200;refine (IL (s[k].toNat:Int) _).mono ?_;rw [H1.out];rintro e w2 ⟨rfl,rfl⟩) | (go_at_call 202;refine (aai o (s[k].toNat:Int) _).mono ?_;rw [HGI.out];rintro e w3 ⟨rfl,rfl⟩))
       exact ⟨⟨k+1,O',N',HN.out⟩,by simp [intOf];omega⟩
     | false =>
       rw [h2] at hci;have hge:Lib.indexByte o.data.toList ((s[k].toNat:Int)).toNat.toUInt8 < 0:=(by rw [apP];simpa using hci.symm);have hok:okB o s[k] = false:=(by unfold okB;rw [h1,h2];rfl);have hfin:GN o s = false:=(by unfold GN;rw [TM hlt hok];simp);have HF:=I' hfin;have H1:=I' h1;clear h1 h2 hci hok hfin;generalize hgi:Lib.indexByte o.data.toList ((s[k].toNat:Int)).toNat.toUInt8 = gi at *;have HGI:=I' hgi;clear hgi;go_wp2_with (first | (go_at_call 200;refine (IL (s[k].toNat:Int) _).mono ?_;rw [H1.out];rintro e w2 ⟨rfl,rfl⟩) | (go_at_call 202;refine (aai o (s[k].toNat:Int) _).mono ?_;rw [HGI.out];rintro e w3 ⟨rfl,rfl⟩))
       go_ret
       exact ⟨by rw [HF.out];rfl,rfl⟩
  ·have hkl:k = s.size:=O';subst hkl;have ha:=YX (p:=okB o) (fun j hj=>hall.out j hj hj);cases h1:GL (s[0].toNat:Int) with
   | false =>
     have hfin:GN o s = false:=(by unfold GN;rw [DF hs,h1];simp);have HF:=I' hfin;have H1:=I' h1;clear h1 hfin;go_wp2_with fail
     refine (IL (s[0].toNat:Int) _).mono ?_;rw [H1.out];rintro e w2 ⟨rfl,rfl⟩;go_wp2;go_ret
     exact ⟨by rw [HF.out];rfl,rfl⟩
   | true =>
     cases h2:GL (s[s.size - 1].toNat:Int)
     all_goals
      have hfin:GN o s = _:=(by unfold GN;rw [ha,DF hs,DF (show s.size - 1 < s.size by omega),h1,h2]);simp only [hs,decide_true,Bool.true_and,Bool.and_true,Bool.and_false] at hfin;have HF:=I' hfin;have H1:=I' h1;have H2:=I' h2;clear h1 h2 hfin;go_wp2_with fail
      refine (IL (s[0].toNat:Int) _).mono ?_;rw [H1.out];rintro e w2 ⟨rfl,rfl⟩;go_wp2_with fail
      refine (IL (s[s.size - 1].toNat:Int) _).mono ?_;rw [H2.out];rintro e w2 ⟨rfl,rfl⟩;go_wp2;go_ret
      exact ⟨by rw [HF.out];rfl,rfl⟩
def nmB (c:UInt8):Bool:=agP c.toNat || agQ c.toNat || decide ((c.toNat:Int) = 45)
def Qs (s:ByteArray):Bool:=decide (0 < s.size∧(s.size:Int)≤20)&&(!decide (((s.data.toList.getD 0 0).toNat:Int) = 45)&&!decide (((s.data.toList.getD (s.size - 1) 0).toNat:Int) = 45))&&s.data.toList.all nmB
theorem aiW (c:UInt8):(nmB c = false∧((c.toNat:Int) < 45∨(45 < (c.toNat:Int)∧(c.toNat:Int) < 48)∨(57 < (c.toNat:Int)∧(c.toNat:Int) < 65)∨(65≤(c.toNat:Int)∧(c.toNat:Int)≤90)∨(90 < (c.toNat:Int)∧(c.toNat:Int) < 97)∨122 < (c.toNat:Int))) ∨
 (nmB c = true∧((c.toNat:Int) = 45∨(48≤(c.toNat:Int)∧(c.toNat:Int)≤57)∨(97≤(c.toNat:Int)∧(c.toNat:Int)≤122))):=by
 cases h:nmB c
 ·left;refine ⟨rfl,?_⟩;unfold nmB agP agQ at h;simp at h;omega
 ·right;refine ⟨rfl,?_⟩;unfold nmB agP agQ at h;simp at h;omega
theorem amv {s:ByteArray} (hs:0 < s.size) (hl:(s.size:Int)≤20) (h0:(s[0].toNat:Int)≠45) (h1:(s[s.size - 1].toNat:Int)≠45) (ha:s.data.toList.all nmB = true):Qs s = true:=by
 unfold Qs;rw [DF hs,DF (show s.size - 1 < s.size by omega),ha];simp [hs,hl,h0,h1]
theorem aiX {s:ByteArray} (h:¬(0 < s.size∧(s.size:Int)≤20)):Qs s = false:=by unfold Qs;simp only [h,decide_false,Bool.false_and]
theorem adR {s:ByteArray} (hs:0 < s.size) (h:(s[0].toNat:Int) = 45):Qs s = false:=by unfold Qs;rw [DF hs];simp [h]
theorem agR {s:ByteArray} (hs:0 < s.size) (h:(s[s.size - 1].toNat:Int) = 45):Qs s = false:=by unfold Qs;rw [DF (show s.size - 1 < s.size by omega)];simp [h]
theorem agS {s:ByteArray} {k:Nat} (hk:k < s.size) (h:nmB s[k] = false):Qs s = false:=by unfold Qs;rw [TM hk h];simp
theorem Ro (s:ByteArray) (w:World) (hs2:(s.size:Int)≤1048576):Calls Tryz.prog 111 #[.string s] w fun e w'=>e = .returned (.bool (Qs s))∧Below w.heap.size w w':=by
 go_enter Tryz.func111,Tryz.ntmps111;go_wp2_with fail
 go_loop [7] (fun v=>∃(k:Nat),k≤s.size∧v = .int .i64 k∧Hid (∀j (hj:j < s.size),j < k→nmB s[j] = true)) (fun v=>s.size - (intOf v).toNat)
 case atStart=>exact ⟨0,Nat.zero_le _,rfl,fun j _ hj=>by omega⟩
 case round =>
  obtain ⟨k,hk,rfl,hall⟩:=hrel;by_cases hlt:k < s.size
  ·rcases aiW s[k] with ⟨hb,hr⟩ | ⟨hb,hr⟩
   ·exact Zacm
   ·have HN:=I' (X4 hlt hall.out hb);clear hb;rcases hr with hr | ⟨hr,hr2⟩ | ⟨hr,hr2⟩
    all_goals
     go_wp2;exact ⟨⟨k+1,O',N',HN.out⟩,by simp [intOf];omega⟩
  ·have hkl:k = s.size:=O';subst hkl;have ha:=I' (YX (p:=nmB) (fun j hj=>hall.out j hj hj));by_cases hln:0 < s.size∧(s.size:Int)≤20
   ·obtain ⟨hs,hl⟩:=hln;have hz:((s.size:Int) == 0) = false:=(by rw [beq_eq_false_iff_ne];omega);by_cases h0:(s[0].toNat:Int) = 45
    ·have HF:=I' (adR hs h0);skip
     exact Zaa3
    ·by_cases h1:(s[s.size - 1].toNat:Int) = 45
     ·have HF:=I' (agR hs h1);skip
      exact Zaa3
     ·have h0':((s[0].toNat:Int) != 45) = true:=(by simp [h0]);have h1':((s[s.size - 1].toNat:Int) != 45) = true:=(by simp [h1]);have h0'':((s[0].toNat:Int) == 45) = false:=(by simp [h0]);have h1'':((s[s.size - 1].toNat:Int) == 45) = false:=(by simp [h1]);have HF:=I' (amv hs hl h0 h1 ha.out);exact Zaa3
   ·have HF:=I' (aiX hln);have hln2:¬((1:Int)≤s.size∧(s.size:Int)≤20):=O';by_cases hs:0 < s.size
    ·have hz:((s.size:Int) == 0) = false:=(by rw [beq_eq_false_iff_ne];omega);have hgt:(20:Int) < s.size:=O';skip
     exact Zaa3
    ·have hs0:(s.size:Int) = 0:=O';skip
     exact Zaa3
theorem Rq (s:ByteArray) (w:World) (hs2:(s.size:Int)≤1048576):Calls Tryz.prog 99 #[.string s] w fun e w'=>e = .returned (.bool (Qs s))∧Below w.heap.size w w':=by
 by_cases hln:0 < s.size∧(s.size:Int)≤20
 ·obtain ⟨hs,hl⟩:=hln;have hz:((s.size:Int) == 0) = false:=by rw [beq_eq_false_iff_ne];omega
  by_cases h0:(s[0].toNat:Int) = 45
  ·have HF:=I' (adR hs h0);go_enter Tryz.func99,Tryz.ntmps99;exact Zaa3
  ·by_cases h1:(s[s.size - 1].toNat:Int) = 45
   ·have HF:=I' (agR hs h1);go_enter Tryz.func99,Tryz.ntmps99;exact Zaa3
   ·have h0':((s[0].toNat:Int) != 45) = true:=(by simp [h0]);have h1':((s[s.size - 1].toNat:Int) != 45) = true:=(by simp [h1]);have h0'':((s[0].toNat:Int) == 45) = false:=(by simp [h0]);have h1'':((s[s.size - 1].toNat:Int) == 45) = false:=(by simp [h1]);go_enter Tryz.func99,Tryz.ntmps99;go_wp2;go_loopw [3] (fun v wr=>∃(k:Nat),k≤s.size∧v = .int .i64 k∧Hid (∀j (hj:j < s.size),j < k→nmB s[j] = true)∧Below w.heap.size w wr) (fun v _=>s.size - (intOf v).toNat)
    case atStart=>exact ⟨0,Nat.zero_le _,rfl,(fun j _ hj=>by omega),aj _⟩
    case round =>
     obtain ⟨k,hk,rfl,hall,hbl⟩:=hrel;by_cases hlt:k < s.size
     ·rcases aiW s[k] with ⟨hb,hr⟩ | ⟨hb,hr⟩
      ·exact Zacm
      ·have HN:=I' (X4 hlt hall.out hb);clear hb;rcases hr with hr | ⟨hr,hr2⟩ | ⟨hr,hr2⟩
       all_goals
        go_wp2;exact ⟨⟨k+1,O',N',HN.out,hbl⟩,by simp [intOf];omega⟩
     ·have hkl:k = s.size:=O';subst hkl;have ha:=I' (YX (p:=nmB) (fun j hj=>hall.out j hj hj));have HF:=I' (amv hs hl h0 h1 ha.out);exact Zaa3
 ·have HF:=I' (aiX hln);have hln2:¬((1:Int)≤s.size∧(s.size:Int)≤20):=by omega
  by_cases hs:0 < s.size
  ·have hz:((s.size:Int) == 0) = false:=(by rw [beq_eq_false_iff_ne];omega);have hgt:(20:Int) < s.size:=O';go_enter Tryz.func99,Tryz.ntmps99;exact Zaa3
  ·have hs0:(s.size:Int) = 0:=O';go_enter Tryz.func99,Tryz.ntmps99;exact Zaa3
def pK {α:Type} (p:α→Bool):List α→Int
 | []=>-1
 | x :: xs=>if p x then 0 else if pK p xs < 0 then -1 else pK p xs+1
theorem F5 {α:Type} {p:α→Bool} : ∀{xs:List α},(∀x∈xs,p x = false)→pK p xs = -1
 | [],_=>rfl
 | x :: xs,h=>by
   have h1:=h x (List.mem_cons_self ..);have h2:=F5 (xs:=xs) fun y hy=>h y (List.mem_cons_of_mem _ hy);simp [pK,h1,h2]
theorem Fj {α:Type} {p:α→Bool} : ∀{xs:List α} {k:Nat} (hk:k < xs.length),(∀x∈xs.take k,p x = false)→p xs[k] = true→pK p xs = k
 | x :: xs,0,_,_,h=>by simp at h;simp [pK,h]
 | x :: xs,k+1,hk,hb,h=>by
   have h1:=hb x S';have h2:=Fj (xs:=xs) (k:=k) (by simpa using hk) (fun y hy=>hb y (by simp [hy])) avp;simp only [pK,h1,h2];rw [if_neg S',if_neg O'];omega
theorem yQ {α:Type} {p:α→Bool} {xs:List α} {k:Nat} (hk:k < xs.length) (h:∀x∈xs.take k,p x = false) (hx:p xs[k] = false):∀x∈xs.take (k+1),p x = false:=by
 rw [List.take_succ_eq_append_getElem hk];intro x hm;rcases List.mem_append.1 hm with hm | hm
 ·exact h x hm
 ·simp at hm;subst hm;exact hx
theorem Nc {α:Type} {p:α→Bool} : ∀(xs:List α),-1≤pK p xs∧pK p xs < xs.length
 | []=>by simp [pK]
 | x :: xs=>by
   have:=Nc (p:=p) xs;simp only [pK,List.length_cons];split
   ·omega
   ·split <;> omega
def iM (nm:ByteArray) (h:Host):Bool:=eqStr h.name nm
theorem ae9 (x:Host) (cs:List Value) (F:List Nat) (nm:ByteArray) (q:Nat) (w:World) (h:rd w x cs F) (hq:w.cell? ⟨q,0,none⟩ = some (.string nm)) (hql:q < w.heap.size) :
 Calls Tryz.prog 117 #[.agg cs.toArray,.pointer (some ⟨q,0,none⟩)] w fun e w'=>e = .returned (.bool (iM nm x))∧Below w.heap.size w w':=by
 obtain ⟨_,_,_,_,rfl,rfl,⟨rfl,rfl,hname⟩,_,_,_,_,rfl,rfl,dO,_,_,_,_,rfl,rfl,⟨rfl,rfl,vg⟩,_,_,_,_,rfl,rfl,⟨rfl,rfl,hmem⟩,_,_,_,_,rfl,rfl,⟨rfl,rfl,uI⟩,jq⟩:=h;obtain ⟨gu,gy,rfl,dO⟩:=jB dO;obtain ⟨kJ,kK,rfl,jq⟩:=jB jq;replace hname:=rV (s:=x.name) hname;replace dO:Sl _ x.labels gu gy _:=dO;replace vg:I64 x.cpu:=vg;replace hmem:I64 x.mem:=hmem;replace uI:I64 x.slots:=uI;replace jq:Sl _ x.aT kJ kK _:=jq;simp only [List.cons_append,List.nil_append];go_enter Tryz.func117,Tryz.ntmps117;go_wp2;go_ret
 exact ⟨rfl,ak (aj _) _⟩
theorem ajq (xs:List Host) (A:Option Addr) (c:Nat) (F:List Nat) (nm:ByteArray) (q:Nat) (w:World) (h:Sl w xs A c F) (hq:w.cell? ⟨q,0,none⟩ = some (.string nm)) (hql:q < w.heap.size) (hl:(xs.length:Int)≤1048576) :
 Calls Tryz.prog 116 #[.slice A xs.length c,.func (.func 117) #[] #[.pointer (some ⟨q,0,none⟩)]] w fun e w'=>e = .returned (.int .i64 (pK (iM nm) xs))∧Below w.heap.size w w':=by
 go_enter Tryz.func116,Tryz.ntmps116;go_wp2;go_loopw [5,8] (fun _ i wr=>∃k:Nat,k≤xs.length∧i = .int .i64 k∧Hid (∀x∈xs.take k,iM nm x = false)∧Below w.heap.size w wr) (fun _ i _=>xs.length - (intOf i).toNat)
 case atStart=>exact ⟨0,Nat.zero_le _,rfl,by show ∀_,_;simp,aj _⟩
 case round =>
  obtain ⟨k,hk,rfl,Hn,hbl⟩:=hrel;by_cases hlt:k < xs.length
  ·obtain ⟨b,o,ck,Fk,rfl,o9,hbs,hr,hsub,hc⟩:=(h.ext hbl).get hlt;obtain ⟨gu,gy,jw,kJ,kK,qU,hck,rfl,hname,dO,vg,hmem,uI,jq⟩:=iy hr;subst hck;have q0:wr.cell? ⟨b,o+k * 6,none⟩ = some (.string xs[k].name):=(by exact hc 0 _ rfl);have q1:wr.cell? ⟨b,o+k * 6+1,none⟩ = some (.slice gu xs[k].labels.length gy):=(by rw [Nat.add_assoc];exact hc 1 _ rfl);have q2:wr.cell? ⟨b,o+k * 6+2,none⟩ = some (.int .i64 xs[k].cpu):=(by rw [Nat.add_assoc];exact hc 2 _ rfl);have q3:wr.cell? ⟨b,o+k * 6+3,none⟩ = some (.int .i64 xs[k].mem):=(by rw [Nat.add_assoc];exact hc 3 _ rfl);have q4:wr.cell? ⟨b,o+k * 6+4,none⟩ = some (.int .i64 xs[k].slots):=(by rw [Nat.add_assoc];exact hc 4 _ rfl);have q5:wr.cell? ⟨b,o+k * 6+5,none⟩ = some (.slice kJ xs[k].aT.length kK):=(by rw [Nat.add_assoc];exact hc 5 _ rfl);clear hc;have hqr:wr.cell? ⟨q,0,none⟩ = some (.string nm):=(by rw [← hq];exact hbl.cell (p:=⟨q,0,none⟩) hql);have alF:q < wr.heap.size:=Nat.lt_of_lt_of_le hql hbl.size;cases hp:iM nm xs[k] with
   | false =>
     have HP:=I' hp;clear hp;go_wp2_with (go_at_call 117;refine (ae9 xs[k] _ _ nm q _ hr hqr alF).mono ?_;rw [HP.out];rintro e w2 ⟨rfl,hb2⟩)
     exact ⟨⟨k+1,O',N',yQ hlt Hn.out HP.out,ah hbl hb2⟩,by simp [intOf];omega⟩
   | true =>
     have HP:=I' hp;clear hp;have HI:=I' (Fj hlt Hn.out HP.out);go_wp2_with (go_at_call 117;refine (ae9 xs[k] _ _ nm q _ hr hqr alF).mono ?_;rw [HP.out];rintro e w2 ⟨rfl,hb2⟩)
     go_ret
     exact ⟨by rw [HI.out];rfl,ah hbl hb2⟩
  ·exact Zadt
theorem gK (x:aU) (cs:List Value) (F:List Nat) (nm:ByteArray) (w:World) (h:rd w x cs F) (hl:(x.hosts.length:Int)≤1048576) :
 Calls Tryz.prog 69 #[.agg cs.toArray,.string nm] w fun e w'=>e = .returned (.int .i64 (pK (iM nm) x.hosts))∧Below w.heap.size w w':=by
 obtain ⟨_,_,_,_,rfl,rfl,bQ,_,_,_,_,rfl,rfl,dM,_,_,_,_,rfl,rfl,⟨rfl,rfl,hnext⟩,xM⟩:=h;obtain ⟨bG,bD,rfl,bQ⟩:=jB bQ;obtain ⟨dn,bW,rfl,dM⟩:=jB dM;have uJ:=xM;obtain ⟨rfl,rfl,aV,aP,aW⟩:=mg xM;replace bQ:Sl _ x.hosts bG bD _:=bQ;replace dM:Sl _ x.au dn bW _:=dM;replace hnext:I64 x.next:=hnext;replace aV:I64 x.weights.pack:=aV;replace aP:I64 x.weights.spread:=aP;replace aW:I64 x.weights.soft:=aW;replace uJ:rd _ x.weights [.int .i64 x.weights.pack,.int .i64 x.weights.spread,.int .i64 x.weights.soft] _:=uJ;simp only [List.cons_append,List.nil_append];go_enter Tryz.func69,Tryz.ntmps69;go_wp2_with (go_at_call 116;refine (ajq x.hosts _ _ _ nm _ _ (bQ.ext atS) S' S' hl).mono ?_;rintro e w2 ⟨rfl,hb2⟩)
 go_ret
 exact ⟨rfl,atS⟩
theorem gQ (x:aU) (cs:List Value) (F:List Nat) (nm:ByteArray) (w:World) (h:rd w x cs F) (hl:(x.hosts.length:Int)≤1048576) :
 Calls Tryz.prog 51 #[.agg cs.toArray,.string nm] w fun e w'=>e = .returned (.int .i64 (pK (iM nm) x.hosts))∧Below w.heap.size w w':=by
 obtain ⟨_,_,_,_,rfl,rfl,bQ,_,_,_,_,rfl,rfl,dM,_,_,_,_,rfl,rfl,⟨rfl,rfl,hnext⟩,xM⟩:=h;obtain ⟨bG,bD,rfl,bQ⟩:=jB bQ;obtain ⟨dn,bW,rfl,dM⟩:=jB dM;have uJ:=xM;obtain ⟨rfl,rfl,aV,aP,aW⟩:=mg xM;replace bQ:Sl _ x.hosts bG bD _:=bQ;replace dM:Sl _ x.au dn bW _:=dM;replace hnext:I64 x.next:=hnext;replace aV:I64 x.weights.pack:=aV;replace aP:I64 x.weights.spread:=aP;replace aW:I64 x.weights.soft:=aW;replace uJ:rd _ x.weights [.int .i64 x.weights.pack,.int .i64 x.weights.spread,.int .i64 x.weights.soft] _:=uJ;simp only [List.cons_append,List.nil_append];go_enter Tryz.func51,Tryz.ntmps51;go_wp2;go_loop [5] (fun i=>∃k:Nat,k≤x.hosts.length∧i = .int .i64 k∧Hid (∀y∈x.hosts.take k,iM nm y = false)) (fun i=>x.hosts.length - (intOf i).toNat)
 case atStart=>exact ⟨0,Nat.zero_le _,rfl,by show ∀_,_;simp⟩
 case round =>
  obtain ⟨k,hk,rfl,Hn⟩:=hrel;by_cases hlt:k < x.hosts.length
  ·obtain ⟨b,o,ck,Fk,rfl,o9,hbs,hr,hsub,hc⟩:=bQ.get hlt;obtain ⟨dU,dV,Ba,kY,kZ,NR,hck,rfl,hname1,jr,IQ,IU,KD,yO⟩:=iy hr;subst hck;have q0:w.cell? ⟨b,o+k * 6,none⟩ = some (.string x.hosts[k].name):=(by exact hc 0 _ rfl);have q1:w.cell? ⟨b,o+k * 6+1,none⟩ = some (.slice dU x.hosts[k].labels.length dV):=(by rw [Nat.add_assoc];exact hc 1 _ rfl);have q2:w.cell? ⟨b,o+k * 6+2,none⟩ = some (.int .i64 x.hosts[k].cpu):=(by rw [Nat.add_assoc];exact hc 2 _ rfl);have q3:w.cell? ⟨b,o+k * 6+3,none⟩ = some (.int .i64 x.hosts[k].mem):=(by rw [Nat.add_assoc];exact hc 3 _ rfl);have q4:w.cell? ⟨b,o+k * 6+4,none⟩ = some (.int .i64 x.hosts[k].slots):=(by rw [Nat.add_assoc];exact hc 4 _ rfl);have q5:w.cell? ⟨b,o+k * 6+5,none⟩ = some (.slice kY x.hosts[k].aT.length kZ):=(by rw [Nat.add_assoc];exact hc 5 _ rfl);clear hc;have hne:b≠w.heap.size:=Nat.ne_of_lt hbs;cases hp:iM nm x.hosts[k] with
   | false =>have HP:=I' hp;have hp':(x.hosts[k].name.toList == nm.toList) = false:=hp;clear hp;go_wp2;exact ⟨⟨k+1,O',N',yQ hlt Hn.out HP.out⟩,by simp [intOf];omega⟩
   | true =>
     have HP:=I' hp;have hp':(x.hosts[k].name.toList == nm.toList) = true:=hp;clear hp;have HI:=I' (Fj hlt Hn.out HP.out);go_wp2;go_ret
     exact ⟨by rw [HI.out];rfl,atS⟩
  ·have hkl:k = x.hosts.length:=O';exact Zad6
def CG (nm:ByteArray) (h:Placed):Bool:=eqStr h.aS.name nm
theorem aiF (x:Placed) (cs:List Value) (F:List Nat) (nm:ByteArray) (q:Nat) (w:World) (h:rd w x cs F) (hq:w.cell? ⟨q,0,none⟩ = some (.string nm)) (hql:q < w.heap.size) :
 Calls Tryz.prog 126 #[.agg cs.toArray,.pointer (some ⟨q,0,none⟩)] w fun e w'=>e = .returned (.bool (CG nm x))∧Below w.heap.size w w':=by
 obtain ⟨_,_,_,_,rfl,rfl,WT,_,_,_,_,rfl,rfl,⟨rfl,rfl,hon⟩,⟨rfl,rfl,hseq⟩⟩:=h;have kG:=WT;obtain ⟨gV,gW,lF,iR,iT,mV,dD,dF,iH,rfl,rfl,nY,iE,rF,rG,oZ,je,dN⟩:=dL WT;replace nY:=rV (s:=x.aS.name) nY;replace iE:Sl _ x.aS.labels gV gW _:=iE;replace rF:I64 x.aS.cpu:=rF;replace rG:I64 x.aS.mem:=rG;replace oZ:I64 x.aS.rank:=oZ;replace je:Sl _ x.aS.needs iR iT _:=je;replace dN:Sl _ x.aS.tolerances dD dF _:=dN;replace hon:=rV (s:=x.on) hon;replace hseq:I64 x.seq:=hseq;replace kG:rd _ x.aS [.string x.aS.name,.slice gV x.aS.labels.length gW,.int .i64 x.aS.cpu,.int .i64 x.aS.mem,.int .i64 x.aS.rank,.slice iR x.aS.needs.length iT,.slice dD x.aS.tolerances.length dF] _:=kG;simp only [List.cons_append,List.nil_append];go_enter Tryz.func126,Tryz.ntmps126;go_wp2;go_ret
 exact ⟨rfl,ak (aj _) _⟩
theorem alG (xs:List Placed) (A:Option Addr) (c:Nat) (F:List Nat) (nm:ByteArray) (q:Nat) (w:World) (h:Sl w xs A c F) (hq:w.cell? ⟨q,0,none⟩ = some (.string nm)) (hql:q < w.heap.size) (hl:(xs.length:Int)≤1048576) :
 Calls Tryz.prog 125 #[.slice A xs.length c,.func (.func 126) #[] #[.pointer (some ⟨q,0,none⟩)]] w fun e w'=>e = .returned (.int .i64 (pK (CG nm) xs))∧Below w.heap.size w w':=by
 go_enter Tryz.func125,Tryz.ntmps125;go_wp2;go_loopw [5,8] (fun _ i wr=>∃k:Nat,k≤xs.length∧i = .int .i64 k∧Hid (∀x∈xs.take k,CG nm x = false)∧Below w.heap.size w wr) (fun _ i _=>xs.length - (intOf i).toNat)
 case atStart=>exact ⟨0,Nat.zero_le _,rfl,by show ∀_,_;simp,aj _⟩
 case round =>
  obtain ⟨k,hk,rfl,Hn,hbl⟩:=hrel;by_cases hlt:k < xs.length
  ·obtain ⟨b,o,ck,Fk,rfl,o9,hbs,hr,hsub,hc⟩:=(h.ext hbl).get hlt;obtain ⟨gV,gW,lF,iR,iT,mV,dD,dF,iH,hck,rfl,nY,iE,rF,rG,oZ,je,dN,hon,hseq⟩:=kE hr;subst hck;have q0:wr.cell? ⟨b,o+k * 9,none⟩ = some (.string xs[k].aS.name):=(by exact hc 0 _ rfl);have q1:wr.cell? ⟨b,o+k * 9+1,none⟩ = some (.slice gV xs[k].aS.labels.length gW):=(by rw [Nat.add_assoc];exact hc 1 _ rfl);have q2:wr.cell? ⟨b,o+k * 9+2,none⟩ = some (.int .i64 xs[k].aS.cpu):=(by rw [Nat.add_assoc];exact hc 2 _ rfl);have q3:wr.cell? ⟨b,o+k * 9+3,none⟩ = some (.int .i64 xs[k].aS.mem):=(by rw [Nat.add_assoc];exact hc 3 _ rfl);have q4:wr.cell? ⟨b,o+k * 9+4,none⟩ = some (.int .i64 xs[k].aS.rank):=(by rw [Nat.add_assoc];exact hc 4 _ rfl);have q5:wr.cell? ⟨b,o+k * 9+5,none⟩ = some (.slice iR xs[k].aS.needs.length iT):=(by rw [Nat.add_assoc];exact hc 5 _ rfl);have q6:wr.cell? ⟨b,o+k * 9+6,none⟩ = some (.slice dD xs[k].aS.tolerances.length dF):=(by rw [Nat.add_assoc];exact hc 6 _ rfl);have q7:wr.cell? ⟨b,o+k * 9+7,none⟩ = some (.string xs[k].on):=(by rw [Nat.add_assoc];exact hc 7 _ rfl);have q8:wr.cell? ⟨b,o+k * 9+8,none⟩ = some (.int .i64 xs[k].seq):=(by rw [Nat.add_assoc];exact hc 8 _ rfl);clear hc;have hqr:wr.cell? ⟨q,0,none⟩ = some (.string nm):=(by rw [← hq];exact hbl.cell (p:=⟨q,0,none⟩) hql);have alF:q < wr.heap.size:=Nat.lt_of_lt_of_le hql hbl.size;cases hp:CG nm xs[k] with
   | false =>
     have HP:=I' hp;clear hp;go_wp2_with (go_at_call 126;refine (aiF xs[k] _ _ nm q _ hr hqr alF).mono ?_;rw [HP.out];rintro e w2 ⟨rfl,hb2⟩)
     exact ⟨⟨k+1,O',N',yQ hlt Hn.out HP.out,ah hbl hb2⟩,by simp [intOf];omega⟩
   | true =>
     have HP:=I' hp;clear hp;have HI:=I' (Fj hlt Hn.out HP.out);go_wp2_with (go_at_call 126;refine (aiF xs[k] _ _ nm q _ hr hqr alF).mono ?_;rw [HP.out];rintro e w2 ⟨rfl,hb2⟩)
     go_ret
     exact ⟨by rw [HI.out];rfl,ah hbl hb2⟩
  ·exact Zadt
theorem UZ (x:aU) (cs:List Value) (F:List Nat) (nm:ByteArray) (w:World) (h:rd w x cs F) (hl:(x.au.length:Int)≤1048576) :
 Calls Tryz.prog 73 #[.agg cs.toArray,.string nm] w fun e w'=>e = .returned (.int .i64 (pK (CG nm) x.au))∧Below w.heap.size w w':=by
 obtain ⟨_,_,_,_,rfl,rfl,bQ,_,_,_,_,rfl,rfl,dM,_,_,_,_,rfl,rfl,⟨rfl,rfl,hnext⟩,xM⟩:=h;obtain ⟨bG,bD,rfl,bQ⟩:=jB bQ;obtain ⟨dn,bW,rfl,dM⟩:=jB dM;have uJ:=xM;obtain ⟨rfl,rfl,aV,aP,aW⟩:=mg xM;replace bQ:Sl _ x.hosts bG bD _:=bQ;replace dM:Sl _ x.au dn bW _:=dM;replace hnext:I64 x.next:=hnext;replace aV:I64 x.weights.pack:=aV;replace aP:I64 x.weights.spread:=aP;replace aW:I64 x.weights.soft:=aW;replace uJ:rd _ x.weights [.int .i64 x.weights.pack,.int .i64 x.weights.spread,.int .i64 x.weights.soft] _:=uJ;simp only [List.cons_append,List.nil_append];go_enter Tryz.func73,Tryz.ntmps73;go_wp2_with (go_at_call 125;refine (alG x.au _ _ _ nm _ _ (dM.ext atS) S' S' hl).mono ?_;rintro e w2 ⟨rfl,hb2⟩)
 go_ret
 exact ⟨rfl,atS⟩
theorem aaj (x:aU) (cs:List Value) (F:List Nat) (nm:ByteArray) (w:World) (h:rd w x cs F) (hl:(x.au.length:Int)≤1048576) :
 Calls Tryz.prog 49 #[.agg cs.toArray,.string nm] w fun e w'=>e = .returned (.int .i64 (pK (CG nm) x.au))∧Below w.heap.size w w':=by
 obtain ⟨_,_,_,_,rfl,rfl,bQ,_,_,_,_,rfl,rfl,dM,_,_,_,_,rfl,rfl,⟨rfl,rfl,hnext⟩,xM⟩:=h;obtain ⟨bG,bD,rfl,bQ⟩:=jB bQ;obtain ⟨dn,bW,rfl,dM⟩:=jB dM;have uJ:=xM;obtain ⟨rfl,rfl,aV,aP,aW⟩:=mg xM;replace bQ:Sl _ x.hosts bG bD _:=bQ;replace dM:Sl _ x.au dn bW _:=dM;replace hnext:I64 x.next:=hnext;replace aV:I64 x.weights.pack:=aV;replace aP:I64 x.weights.spread:=aP;replace aW:I64 x.weights.soft:=aW;replace uJ:rd _ x.weights [.int .i64 x.weights.pack,.int .i64 x.weights.spread,.int .i64 x.weights.soft] _:=uJ;simp only [List.cons_append,List.nil_append];go_enter Tryz.func49,Tryz.ntmps49;go_wp2;go_loop [5] (fun i=>∃k:Nat,k≤x.au.length∧i = .int .i64 k∧Hid (∀y∈x.au.take k,CG nm y = false)) (fun i=>x.au.length - (intOf i).toNat)
 case atStart=>exact ⟨0,Nat.zero_le _,rfl,by show ∀_,_;simp⟩
 case round =>
  obtain ⟨k,hk,rfl,Hn⟩:=hrel;by_cases hlt:k < x.au.length
  ·obtain ⟨b,o,ck,Fk,rfl,o9,hbs,hr,hsub,hc⟩:=dM.get hlt;obtain ⟨pO,pR,EY,rH,rJ,He,kT,kU,yu,hck,rfl,Dq,yw,FW,FX,Dt,Az,qH,anH,afa⟩:=kE hr;subst hck;have q0:w.cell? ⟨b,o+k * 9,none⟩ = some (.string x.au[k].aS.name):=(by exact hc 0 _ rfl);have q1:w.cell? ⟨b,o+k * 9+1,none⟩ = some (.slice pO x.au[k].aS.labels.length pR):=(by rw [Nat.add_assoc];exact hc 1 _ rfl);have q2:w.cell? ⟨b,o+k * 9+2,none⟩ = some (.int .i64 x.au[k].aS.cpu):=(by rw [Nat.add_assoc];exact hc 2 _ rfl);have q3:w.cell? ⟨b,o+k * 9+3,none⟩ = some (.int .i64 x.au[k].aS.mem):=(by rw [Nat.add_assoc];exact hc 3 _ rfl);have q4:w.cell? ⟨b,o+k * 9+4,none⟩ = some (.int .i64 x.au[k].aS.rank):=(by rw [Nat.add_assoc];exact hc 4 _ rfl);have q5:w.cell? ⟨b,o+k * 9+5,none⟩ = some (.slice rH x.au[k].aS.needs.length rJ):=(by rw [Nat.add_assoc];exact hc 5 _ rfl);have q6:w.cell? ⟨b,o+k * 9+6,none⟩ = some (.slice kT x.au[k].aS.tolerances.length kU):=(by rw [Nat.add_assoc];exact hc 6 _ rfl);have q7:w.cell? ⟨b,o+k * 9+7,none⟩ = some (.string x.au[k].on):=(by rw [Nat.add_assoc];exact hc 7 _ rfl);have q8:w.cell? ⟨b,o+k * 9+8,none⟩ = some (.int .i64 x.au[k].seq):=(by rw [Nat.add_assoc];exact hc 8 _ rfl);clear hc;have hne:b≠w.heap.size:=Nat.ne_of_lt hbs;cases hp:CG nm x.au[k] with
   | false =>have HP:=I' hp;have hp':(x.au[k].aS.name.toList == nm.toList) = false:=hp;clear hp;go_wp2;exact ⟨⟨k+1,O',N',yQ hlt Hn.out HP.out⟩,by simp [intOf];omega⟩
   | true =>
     have HP:=I' hp;have hp':(x.au[k].aS.name.toList == nm.toList) = true:=hp;clear hp;have HI:=I' (Fj hlt Hn.out HP.out);go_wp2;go_ret
     exact ⟨by rw [HI.out];rfl,atS⟩
  ·have hkl:k = x.au.length:=O';exact Zad6
end Go.Proofs.YtkbkikggodlbbaaGreat
