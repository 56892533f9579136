/- The words of labels and names, of the program and of the reference. No condition. -/
import Derived.Test.YtjahcnjmjahbaaaGreatKit
import Derived.Lib.IndexAny
import Derived.Test.YtjahcnjmjahbaaaGreatRegion
namespace Go.Proofs.YtjahcnjmjahbaaaGreat
open Go.ChangeShapes Go.WideShapes Go.ChangeAt Go.RowKit
set_option linter.unusedVariables false
set_option linter.unusedSimpArgs false
set_option maxHeartbeats 400000
set_option maxRecDepth 100000
def GL (c:Int):Bool:=decide (97<=c)&&decide (c<=122) || decide (65<=c)&&decide (c<=90) || decide (48<=c)&&decide (c<=57)
def W1 (c:Int):Bool:=decide (97<=c)&&decide (c<=122)
def W2 (c:Int):Bool:=decide (48<=c)&&decide (c<=57)
def okB (o:ByteArray) (c:UInt8):Bool:=GL c.toNat || o.data.toList.contains c
def GN (o s:ByteArray):Bool:=decide (0 < s.size)&&(GL (s.data.toList.getD 0 0).toNat&&GL (s.data.toList.getD (s.size - 1) 0).toNat)&&s.data.toList.all (okB o)
theorem DF {s:ByteArray} {k:Nat} (h:k < s.size):s.data.toList.getD k 0 = s[k]:=by
 have h':k < s.data.size:=h;rw [List.getD_eq_getElem?_getD,List.getElem?_eq_getElem (by simpa using h')];simp [ByteArray.getElem_eq_getElem_data]
theorem YX {s:ByteArray} {p:UInt8->Bool} (h:∀j (hj:j < s.size),p s[j] = true):s.data.toList.all p = true:=by
 rw [List.all_eq_true];intro x hx;obtain ⟨j,hj,rfl⟩:=List.getElem_of_mem hx;have OJ:j < s.size:=by simpa using hj
 have:=h j OJ;simpa [ByteArray.getElem_eq_getElem_data] using this
theorem TM {s:ByteArray} {p:UInt8->Bool} {k:Nat} (hk:k < s.size) (h:p s[k] = false):s.data.toList.all p = false:=by
 rw [List.all_eq_false];have pS:k < s.data.size:=hk;refine ⟨s.data.toList[k]'(by simpa using pS),List.getElem_mem _,?_⟩;simp only [Array.getElem_toList];rw [ByteArray.getElem_eq_getElem_data] at h;simp [h]
theorem X4 {s:ByteArray} {p:UInt8->Bool} {k:Nat} (am:k < s.size) (h:∀j (hj:j < s.size),j < k->p s[j] = true) (hp:p s[k] = true):∀j (hj:j < s.size),j < k+1->p s[j] = true:=λj hj fe=>by
 rcases Nat.lt_or_ge j k with h1 | h1
 ·exact h j hj h1
 ·obtain rfl:j = k:=by omega
  exact hp
theorem apP (c:UInt8):((c.toNat:Int)).toNat.toUInt8 = c:=by simp
theorem IL (c:Int) (w:World):Calls Tryz.prog 196 #[.int .u8 c] w λe w'=>e = .returned (.bool (GL c))/\w' = w:=by
 go_enter Tryz.func196,Tryz.ntmps196;exact Mt
theorem Gm (c:Int) (w:World):Calls Tryz.prog 135 #[.int .u8 c] w λe w'=>e = .returned (.bool (GL c))/\w' = w:=by
 go_enter Tryz.func135,Tryz.ntmps135;exact Mt
theorem Q7 (s:ByteArray) (c:Int) (w:World):Calls Tryz.prog 219 #[.string s,.int .u8 c] w λe w'=>e = .returned (.int .i64 (Lib.indexByte s.data.toList c.toNat.toUInt8))/\w' = w:=by
 go_enter Tryz.func219,Tryz.ntmps219;go_wp2;rw [run_callFunc_extern Tryz.func232 U' U' U' (e:=Extern.BytealgIndexByte.indexByte) U',Lib.run_indexByteString];simp only [Result.andThen];rw [Oper.upon_value];go_wp2;go_ret
 exact ⟨rfl,rfl⟩
theorem aai (s:ByteArray) (c:Int) (w:World):Calls Tryz.prog 198 #[.string s,.int .u8 c] w λe w'=>e = .returned (.int .i64 (Lib.indexByte s.data.toList c.toNat.toUInt8))/\w' = w:=by
 go_enter Tryz.func198,Tryz.ntmps198;go_wp2_with fail
 refine (Q7 s c _).mono ?_;rintro e w' ⟨rfl,rfl⟩;go_wp2;go_ret
 exact ⟨rfl,rfl⟩
theorem aef (s o:ByteArray) (w:World) (hs:0 < s.size) (cC:(s.size:Int)<=1048576):Calls Tryz.prog 167 #[.string s,.string o] w λe w'=>e = .returned (.bool (GN o s))/\w' = w:=by
 go_enter Tryz.func167,Tryz.ntmps167;go_wp2_with fail
 go_loop [9] (λv=>∃(k:Nat),k<=s.size/\v = .int .i64 k/\Hid (∀j (hj:j < s.size),j < k->okB o s[j] = true)) (λv=>s.size - (intOf v).toNat)
 case atStart=>exact ⟨0,Nat.zero_le _,rfl,λj _ hj=>by omega⟩
 case round =>
  obtain ⟨k,hk,rfl,hall⟩:=hrel;by_cases am:k < s.size
  ·cases h1:GL (s[k].toNat:Int) with
   | true =>
     have ft:okB o s[k] = true:=(by unfold okB;rw [h1];rfl);have H1:=I h1;have HN:=I (X4 am hall.out ft);clear h1 ft;go_wp2_with (go_at_call 196;refine (IL (s[k].toNat:Int) _).mono ?_;rw [H1.out];rintro e w2 ⟨rfl,rfl⟩)
     exact ⟨⟨k+1,J,N',HN.out⟩,by simp [intOf];omega⟩
   | false =>
     have ee:=Lib.contains_iff_indexByte o.data.toList s[k];cases h2:o.data.toList.contains s[k] with
     | true =>
       rw [h2] at ee;have iN:0<=Lib.indexByte o.data.toList ((s[k].toNat:Int)).toNat.toUInt8:=(by rw [apP];simpa using ee.symm);have ft:okB o s[k] = true:=(by unfold okB;rw [h2];simp);have H1:=I h1;have HN:=I (X4 am hall.out ft);clear h1 h2 ee ft;generalize hgi:Lib.indexByte o.data.toList ((s[k].toNat:Int)).toNat.toUInt8 = gi at *;have W3:=I hgi;clear hgi;go_wp2_with (first | (go_at_call 196;refine (IL (s[k].toNat:Int) _).mono ?_;rw [H1.out];rintro e w2 ⟨rfl,rfl⟩) | (go_at_call 198;refine (aai o (s[k].toNat:Int) _).mono ?_;rw [W3.out];rintro e w3 ⟨rfl,rfl⟩))
       exact ⟨⟨k+1,J,N',HN.out⟩,by simp [intOf];omega⟩
     | false =>
       rw [h2] at ee;have iN:Lib.indexByte o.data.toList ((s[k].toNat:Int)).toNat.toUInt8 < 0:=(by rw [apP];simpa using ee.symm);have ft:okB o s[k] = false:=(by unfold okB;rw [h1,h2];rfl);have bb:GN o s = false:=(by unfold GN;rw [TM am ft];simp);have HF:=I bb;have H1:=I h1;clear h1 h2 ee ft bb;generalize hgi:Lib.indexByte o.data.toList ((s[k].toNat:Int)).toNat.toUInt8 = gi at *;have W3:=I hgi;clear hgi;go_wp2_with (first | (go_at_call 196;refine (IL (s[k].toNat:Int) _).mono ?_;rw [H1.out];rintro e w2 ⟨rfl,rfl⟩) | (go_at_call 198;refine (aai o (s[k].toNat:Int) _).mono ?_;rw [W3.out];rintro e w3 ⟨rfl,rfl⟩))
       go_ret
       exact ⟨by rw [HF.out];rfl,rfl⟩
  ·have bs:k = s.size:=J;subst bs;have ha:=YX (p:=okB o) (λj hj=>hall.out j hj hj);cases h1:GL (s[0].toNat:Int) with
   | false =>
     have bb:GN o s = false:=(by unfold GN;rw [DF hs,h1];simp);have HF:=I bb;have H1:=I h1;clear h1 bb;go_wp2_with fail
     refine (IL (s[0].toNat:Int) _).mono ?_;rw [H1.out];rintro e w2 ⟨rfl,rfl⟩;go_wp2;go_ret
     exact ⟨by rw [HF.out];rfl,rfl⟩
   | true =>
     cases h2:GL (s[s.size - 1].toNat:Int)
     all_goals
      have bb:GN o s = _:=(by unfold GN;rw [ha,DF hs,DF (show s.size - 1 < s.size by omega),h1,h2]);simp only [hs,decide_true,Bool.true_and,Bool.and_true,Bool.and_false] at bb;have HF:=I bb;have H1:=I h1;have H2:=I h2;clear h1 h2 bb;go_wp2_with fail
      refine (IL (s[0].toNat:Int) _).mono ?_;rw [H1.out];rintro e w2 ⟨rfl,rfl⟩;go_wp2_with fail
      refine (IL (s[s.size - 1].toNat:Int) _).mono ?_;rw [H2.out];rintro e w2 ⟨rfl,rfl⟩;go_wp2;go_ret
      exact ⟨by rw [HF.out];rfl,rfl⟩
def xT (o:ByteArray) (c:UInt8) (k:Nat):Bool:=GL c.toNat || (o.data.toList.take k).contains c
theorem apb (o:ByteArray) (c:UInt8):xT o c 0 = GL c.toNat:=by simp [xT]
theorem apc (o:ByteArray) (c:UInt8):xT o c o.size = okB o c:=by
 unfold xT okB;rw [List.take_of_length_le (by rw [Array.length_toList];exact Nat.le_refl _)]
theorem apd {o:ByteArray} {c:UInt8} {k:Nat} (hk:k < o.size):xT o c (k+1) = (xT o c k || ((c.toNat:Int) == (o[k].toNat:Int))):=by
 have pS:k < o.data.toList.length:=by simpa using hk
 unfold xT;rw [List.take_succ_eq_append_getElem pS,List.contains_eq_any_beq,List.contains_eq_any_beq,List.any_append,Bool.or_assoc];congr 2;simp only [List.any_cons,List.any_nil,Bool.or_false,Array.getElem_toList];rw [Bool.eq_iff_iff,beq_iff_eq,beq_iff_eq,ByteArray.getElem_eq_getElem_data];constructor
 ·intro h;rw [<- h]
 ·intro h;exact UInt8.toNat_inj.1 J
theorem Wu (s o:ByteArray) (w:World) (cC:(s.size:Int)<=1048576) (ho:(o.size:Int)<=1048576):Calls Tryz.prog 171 #[.string s,.string o] w λe w'=>e = .returned (.bool (GN o s))/\Below w.heap.size w w':=by
 by_cases hs:0 < s.size
 ·have hz:((s.size:Int) == 0) = false:=by rw [beq_eq_false_iff_ne];omega
  cases h1:GL (s[0].toNat:Int) with
  | false =>
    have bb:GN o s = false:=(by unfold GN;rw [DF hs,h1];simp);have HF:=I bb;have H1:=I h1;clear h1 bb;go_enter Tryz.func171,Tryz.ntmps171;go_wp2_with fail
    refine (Gm (s[0].toNat:Int) _).mono ?_;rw [H1.out];exact Nd
  | true =>
    cases h2:GL (s[s.size - 1].toNat:Int) with
    | false =>
      have bb:GN o s = false:=(by unfold GN;rw [DF hs,DF (show s.size - 1 < s.size by omega),h1,h2];simp);have HF:=I bb;have H1:=I h1;have H2:=I h2;clear h1 h2 bb;go_enter Tryz.func171,Tryz.ntmps171;go_wp2_with fail
      refine (Gm (s[0].toNat:Int) _).mono ?_;rw [H1.out];rintro e w2 ⟨rfl,hw⟩;rw [hw];clear hw w2;go_wp2_with fail
      refine (Gm (s[s.size - 1].toNat:Int) _).mono ?_;rw [H2.out];exact Nd
    | true =>
      have bb:GN o s = s.data.toList.all (okB o):=(by unfold GN;rw [DF hs,DF (show s.size - 1 < s.size by omega),h1,h2];simp [hs]);have HF:=I bb;have H1:=I h1;have H2:=I h2;clear h1 h2 bb;go_enter Tryz.func171,Tryz.ntmps171;go_wp2_with fail
      refine (Gm (s[0].toNat:Int) _).mono ?_;rw [H1.out];rintro e w2 ⟨rfl,hw⟩;rw [hw];clear hw w2;go_wp2_with fail
      refine (Gm (s[s.size - 1].toNat:Int) _).mono ?_;rw [H2.out];rintro e w2 ⟨rfl,hw⟩;rw [hw];clear hw w2;go_wp2_with fail
      go_loopw [5] (λv wr=>∃(k:Nat),k<=s.size/\v = .int .i64 k/\Hid (∀j (hj:j < s.size),j < k->okB o s[j] = true)/\Below w.heap.size w wr) (λv _=>s.size - (intOf v).toNat)
      case atStart=>exact ⟨0,Nat.zero_le _,rfl,λj _ hj=>by omega,aj _⟩
      case round =>
       obtain ⟨k,hk,rfl,hall,ax⟩:=hrel;by_cases am:k < s.size
       ·go_wp2_with fail
        refine (Gm (s[k].toNat:Int) _).mono ?_;rw [<- apb o s[k]];rintro e w2 ⟨rfl,hw⟩;rw [hw];clear hw w2;go_wp2_with fail
        go_loopw [6,7] (λv u wi=>∃(j:Nat),j<=o.size/\u = .int .i64 j/\v = .bool (xT o s[k] j)/\Below w.heap.size w wi) (λ_ u _=>o.size - (intOf u).toNat)
        case atStart=>exact ⟨0,Nat.zero_le _,rfl,rfl,ax⟩
        case round =>
         obtain ⟨j,hj,rfl,rfl,hbi⟩:=hrel;by_cases gp:j < o.size
         ·have HA:=I (apd (c:=s[k]) gp);generalize hb:xT o s[k] j = b at *;cases b
          all_goals
           clear hb;go_wp2_with fail
           refine aF _ U' U' (aj _) ?_
           repeat ((first | refine aG J' ?_ | refine aH _ J' du ?_);simp only [Act.put,pz])
           refine aN ?_;intro wn hn;replace hn:=hn.out;go_wp2;exact ⟨⟨j+1,J,N',by rw [HA.out];rfl,ah hbi hn⟩,by simp [intOf];omega⟩
         ·have MX:j = o.size:=J;subst MX;rw [apc];cases ft:okB o s[k] with
          | true =>have HN:=I (X4 am hall.out ft);clear ft;go_wp2;exact ⟨⟨k+1,J,N',HN.out,hbi⟩,by simp [intOf];omega⟩
          | false =>
            have HG:=I (TM am ft);clear ft;go_wp2;go_ret
            exact ⟨by rw [HF.out,HG.out];rfl,hbi⟩
       ·have bs:k = s.size:=J;subst bs;have HG:=I (YX (p:=okB o) (λj hj=>hall.out j hj hj));go_wp2;go_ret
        exact ⟨by rw [HF.out,HG.out];rfl,ax⟩
 ·have jx:s.size = 0:=by omega
  have bb:GN o s = false:=by unfold GN;simp [jx]
  have HF:=I bb;clear bb;go_enter Tryz.func171,Tryz.ntmps171;go_wp2;go_ret
  exact ⟨by rw [HF.out];rfl,aj _⟩
end Go.Proofs.YtjahcnjmjahbaaaGreat
