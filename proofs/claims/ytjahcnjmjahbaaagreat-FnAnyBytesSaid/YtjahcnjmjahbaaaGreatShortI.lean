/- ReadShort, of the program. No condition. -/
import Derived.Test.YtjahcnjmjahbaaaGreatUsedP
import Derived.Shelf.Small.Bits
import Derived.Shelf.Bits.Mul64
import Derived.Test.YtjahcnjmjahbaaaGreatRegionCut
import Derived.Test.YtjahcnjmjahbaaaGreatNeedOk
namespace Go.Proofs.YtjahcnjmjahbaaaGreat
open Go.ChangeShapes Go.WideShapes Go.ChangeAt Go.RowKit
set_option linter.unusedVariables false
set_option linter.unusedSimpArgs false
set_option maxHeartbeats 2000000
set_option maxRecDepth 100000
theorem ahb (s:ByteArray) (a:Int) (w:World) (hs:(s.size:Int)<=1048576) (ha:aR a) :
 Calls Tryz.prog 120 #[.string s,.int .i64 a] w λe w'=>e = .returned (.tuple #[.string (rU s a).1,.int .i64 (rU s a).2])/\w' = w:=by
 have ud:=ace s a w hs ha;rw [UY] at ud;have xd:=I ud;rcases IG s a with hv | ⟨n,p,hv,hn,hp⟩
 ·have HF:=I (show rU s a = (⟨#[]⟩,-1) by unfold rU;rw [hv,if_pos (.inl (by decide))]);have HV:=I hv;clear ud hv;go_enter Tryz.func120,Tryz.ntmps120;exact pL
 ·by_cases eC:n<=s.size - p
  ·have HF:=I (show rU s a = (s.extract p (p+n),((p:Int)+(n:Int))) by
    unfold rU;rw [hv,if_neg (by show ¬((p:Int) < 0∨(s.size:Int) - (p:Int) < (n:Int));omega)]
    rfl)
   have HV:=I hv;clear ud hv;have oA:¬((s.size:Int) - (p:Int) < (n:Int)):=J;have ed:(n:Int)<=1048576:=J;have hpi:(p:Int)<=s.size:=J;clear hn;go_enter Tryz.func120,Tryz.ntmps120;exact pL
  ·have HF:=I (show rU s a = (⟨#[]⟩,-1) by
    unfold rU
    rw [hv,if_pos (by show (p:Int) < 0∨(s.size:Int) - (p:Int) < (n:Int);omega)])
   have HV:=I hv;clear ud hv;have oA:(s.size:Int) - (p:Int) < (n:Int):=J;have ed:(n:Int)<=9223372036854775807:=J;clear hn;go_enter Tryz.func120,Tryz.ntmps120;exact pL
theorem ahk (s:ByteArray) (a:Int) (w:World) (hs:(s.size:Int)<=1048576) (ha:aR a) :
 Calls Tryz.prog 134 #[.string s,.int .i64 a] w λe w'=>e = .returned (.tuple #[.string (rU s a).1,.int .i64 (rU s a).2])/\Below w.heap.size w w':=by
 have ud:=aci s a w hs ha;rw [UY] at ud;have xd:=I ud;rcases IG s a with hv | ⟨n,p,hv,hn,hp⟩
 ·have HF:=I (show rU s a = (⟨#[]⟩,-1) by unfold rU;rw [hv,if_pos (.inl (by decide))]);have HV:=I hv;clear ud hv;go_enter Tryz.func134,Tryz.ntmps134;exact pL
 ·by_cases eC:n<=s.size - p
  ·have HF:=I (show rU s a = (s.extract p (p+n),((p:Int)+(n:Int))) by
    unfold rU;rw [hv,if_neg (by show ¬((p:Int) < 0∨(s.size:Int) - (p:Int) < (n:Int));omega)]
    rfl)
   have HV:=I hv;clear ud hv;have oA:¬((s.size:Int) - (p:Int) < (n:Int)):=J;have ed:(n:Int)<=1048576:=J;have hpi:(p:Int)<=s.size:=J;clear hn;go_enter Tryz.func134,Tryz.ntmps134;exact pL
  ·have HF:=I (show rU s a = (⟨#[]⟩,-1) by
    unfold rU
    rw [hv,if_pos (by show (p:Int) < 0∨(s.size:Int) - (p:Int) < (n:Int);omega)])
   have HV:=I hv;clear ud hv;have oA:(s.size:Int) - (p:Int) < (n:Int):=J;have ed:(n:Int)<=9223372036854775807:=J;clear hn;go_enter Tryz.func134,Tryz.ntmps134;exact pL
def yM (w:World) (b:Nat) (s:ByteArray) (st:Int × Bool):Prop:=(∃t,w.heap[b]? = some (.cells #[.string s,.int .i64 st.1,.bool st.2] t (0,0)))/\aR st.1
section
variable {w w':World} {b:Nat} {s:ByteArray} {st:Int × Bool}
theorem yM.lt (h:yM w b s st):b < w.heap.size:=by
 obtain ⟨⟨t,h⟩,_⟩:=h;exact Dk
theorem yM.c0 (h:yM w b s st):w.cell? ⟨b,0,none⟩ = some (.string s):=by obtain ⟨⟨t,h⟩,_⟩:=h;rw [cell_of_row w b 0 _ t (0,0) h];rfl
theorem yM.c1 (h:yM w b s st):w.cell? ⟨b,1,none⟩ = some (.int .i64 st.1):=by obtain ⟨⟨t,h⟩,_⟩:=h;rw [cell_of_row w b 1 _ t (0,0) h];rfl
theorem yM.c2 (h:yM w b s st):w.cell? ⟨b,2,none⟩ = some (.bool st.2):=by obtain ⟨⟨t,h⟩,_⟩:=h;rw [cell_of_row w b 2 _ t (0,0) h];rfl
theorem yM.fz (h:yM w b s st) (i:Nat):w.frozen? ⟨b,i,none⟩ = false:=by obtain ⟨⟨t,h⟩,_⟩:=h;simp [World.frozen?,h]
theorem yM.keep (h:yM w b s st) (hk:w'.heap[b]? = w.heap[b]?):yM w' b s st:=by obtain ⟨⟨t,h⟩,hi⟩:=h;exact ⟨⟨t,hk.trans h⟩,hi⟩
theorem yM.ext (h:yM w b s st) (hb:Below w.heap.size w w'):yM w' b s st:=h.keep (hb.block b h.lt)
theorem yM.at_ (h:yM w b s st) {a':Int} (ha:aR a'):yM (w.setCell ⟨b,1,none⟩ (.int .i64 a')) b s (a',st.2):=by
 obtain ⟨⟨t,h⟩,_⟩:=h;exact ⟨⟨t,by simp [World.setCell,Array.getElem?_modify,h]⟩,ha⟩
theorem yM.bad (h:yM w b s st):yM (w.setCell ⟨b,2,none⟩ (.bool true)) b s (st.1,true):=by
 obtain ⟨⟨t,h⟩,hi⟩:=h;exact ⟨⟨t,by simp [World.setCell,Array.getElem?_modify,h]⟩,hi⟩
theorem ahj {n:Int} (h:-1<=n/\n<=1048576):aR n:=⟨J,J⟩
end
theorem Ae (s:ByteArray) (b:Nat) (st:Int × Bool) (w:World) (h:yM w b s st) (hs:(s.size:Int)<=1048576) :
 Calls Tryz.prog 46 #[.pointer (some ⟨b,0,none⟩)] w λe w'=>e = .returned (.int .i64 (iZ s st).1)/\yM w' b s (iZ s st).2/\nN [b] w w':=by
 have yo:=h.c0;have cO:=h.c1;have bX:=h.c2;have am:=h.lt;have H:=I h;have HI:=I (show aR (fG s st.1).2 from ahj (aha s st.1 hs).2.1);have xd:=I (λwq=>(by have e:=aci s st.1 wq hs h.2;rw [UY] at e;exact e:Calls Tryz.prog 86 #[.string s,.int .i64 st.1] wq λe w'=>e = .returned (.tuple #[.int .i64 (fG s st.1).1,.int .i64 (fG s st.1).2])/\Below wq.heap.size wq w'));clear h;obtain ⟨a,bad⟩:=st;dsimp only at *;by_cases hn:(fG s a).2 < 0
 ·have HF:=I (show iZ s (a,bad) = (0,(a,true)) by unfold iZ;rw [if_pos (.inl hn)]);generalize fG s a = q at *;go_enter Tryz.func46,Tryz.ntmps46;exact wj
 ·cases bad
  ·have HF:=I (show iZ s (a,false) = ((fG s a).1,((fG s a).2,false)) by unfold iZ;rw [if_neg (by simp [hn])]);generalize fG s a = q at *;go_enter Tryz.func46,Tryz.ntmps46;exact N4
  ·have HF:=I (show iZ s (a,true) = (0,(a,true)) by unfold iZ;rw [if_pos (.inr rfl)]);generalize fG s a = q at *;go_enter Tryz.func46,Tryz.ntmps46;exact wj
theorem DJ (s:ByteArray) (b:Nat) (st:Int × Bool) (w:World) (h:yM w b s st) (hs:(s.size:Int)<=1048576) :
 Calls Tryz.prog 87 #[.pointer (some ⟨b,0,none⟩)] w λe w'=>e = .returned (.string (aD s st).1)/\yM w' b s (aD s st).2/\nN [b] w w':=by
 have yo:=h.c0;have cO:=h.c1;have bX:=h.c2;have am:=h.lt;have H:=I h;have HI:=I (show aR (rU s st.1).2 from ahj ⟨(Oq s st.1 hs).2.1,by have:=(Oq s st.1 hs).2.2;omega⟩);have xd:=I (λwq=>ahk s st.1 wq hs h.2);clear h;obtain ⟨a,bad⟩:=st;dsimp only at *;by_cases hn:(rU s a).2 < 0
 ·have HF:=I (show aD s (a,bad) = (⟨#[]⟩,(a,true)) by unfold aD;rw [if_pos (.inl hn)]);generalize rU s a = q at *;go_enter Tryz.func87,Tryz.ntmps87;exact wj
 ·cases bad
  ·have HF:=I (show aD s (a,false) = ((rU s a).1,((rU s a).2,false)) by unfold aD;rw [if_neg (by simp [hn])]);generalize rU s a = q at *;go_enter Tryz.func87,Tryz.ntmps87;exact N4
  ·have HF:=I (show aD s (a,true) = (⟨#[]⟩,(a,true)) by unfold aD;rw [if_pos (.inr rfl)]);generalize rU s a = q at *;go_enter Tryz.func87,Tryz.ntmps87;exact wj
theorem Gi (s:ByteArray) (b:Nat) (most:Int) (st:Int × Bool) (w:World) (h:yM w b s st) (hs:(s.size:Int)<=1048576) :
 Calls Tryz.prog 47 #[.pointer (some ⟨b,0,none⟩),.int .i64 most] w λe w'=>e = .returned (.int .i64 (lM s most st).1)/\yM w' b s (lM s most st).2/\nN [b] w w':=by
 have qT:=I (Ae s b st w h hs);have ir:lM s most st = (if most < (iZ s st).1 then (0,((iZ s st).2.1,true)) else iZ s st):=rfl;have HC:=I ir;clear ir h;generalize iZ s st = q at *;by_cases hm:most < q.1
 ·have HF:=I (show lM s most st = (0,(q.2.1,true)) by rw [HC.out,if_pos hm]);go_enter Tryz.func47,Tryz.ntmps47;go_wp2_with fail
  refine qT.out.mono ?_;rintro e w2 ⟨rfl,dj,ca⟩;have H2:=I dj;have cE:=dj.fz 2;have sk:=dj.lt;have Ib:=dj.c2;clear dj;go_wp2;go_ret
  rw [HF.out];exact ⟨rfl,H2.out.bad,ca.setCell S' _⟩
 ·have HF:=I (show lM s most st = q by rw [HC.out,if_neg hm]);go_enter Tryz.func47,Tryz.ntmps47;go_wp2_with fail
  refine qT.out.mono ?_;rintro e w2 ⟨rfl,dj,ca⟩;have H2:=I dj;clear dj;go_wp2;go_ret
  rw [HF.out];exact ⟨rfl,H2.out,ca⟩
def zk (w:World) (b:Nat) (s:ByteArray) (a:Int):Prop:=(∃t,w.heap[b]? = some (.cells #[.string s,.int .i64 a] t (0,0)))/\aR a
section
variable {w w':World} {b:Nat} {s:ByteArray} {a:Int}
theorem zk.lt (h:zk w b s a):b < w.heap.size:=by
 obtain ⟨⟨t,h⟩,_⟩:=h;exact Dk
theorem zk.c0 (h:zk w b s a):w.cell? ⟨b,0,none⟩ = some (.string s):=by obtain ⟨⟨t,h⟩,_⟩:=h;rw [cell_of_row w b 0 _ t (0,0) h];rfl
theorem zk.c1 (h:zk w b s a):w.cell? ⟨b,1,none⟩ = some (.int .i64 a):=by obtain ⟨⟨t,h⟩,_⟩:=h;rw [cell_of_row w b 1 _ t (0,0) h];rfl
theorem zk.fz (h:zk w b s a) (i:Nat):w.frozen? ⟨b,i,none⟩ = false:=by obtain ⟨⟨t,h⟩,_⟩:=h;simp [World.frozen?,h]
theorem zk.keep (h:zk w b s a) (hk:w'.heap[b]? = w.heap[b]?):zk w' b s a:=by obtain ⟨⟨t,h⟩,hi⟩:=h;exact ⟨⟨t,hk.trans h⟩,hi⟩
theorem zk.ext (h:zk w b s a) (hb:Below w.heap.size w w'):zk w' b s a:=h.keep (hb.block b h.lt)
theorem zk.set (h:zk w b s a) {a':Int} (ha:aR a'):zk (w.setCell ⟨b,1,none⟩ (.int .i64 a')) b s a':=by
 obtain ⟨⟨t,h⟩,_⟩:=h;exact ⟨⟨t,by simp [World.setCell,Array.getElem?_modify,h]⟩,ha⟩
theorem atz (b i:Nat) (w:World) (u:Value):nN [b] w (w.setCell ⟨b,i,none⟩ u):=(nN.refl [b] w).setCell S' u
theorem ai6 {n:Int} (h:-1<=n/\n<=1048576):aR n:=⟨J,J⟩
end
theorem FT (s:ByteArray) (b:Nat) (a:Int) (w:World) (h:zk w b s a) (hs:(s.size:Int)<=1048576) :
 Calls Tryz.prog 31 #[.pointer (some ⟨b,0,none⟩)] w λe w'=>e = .returned (.int .i64 (fG s a).1)/\zk w' b s (fG s a).2/\nN [b] w w':=by
 obtain ⟨fY,dj,TR⟩:=aha s a hs;have yo:=h.c0;have cO:=h.c1;have P0:=h.fz 0;have eO:=h.fz 1;have am:=h.lt;have HI:=I (ai6 dj);have H:=I h;have xd:=I (λwq=>by have e:=ace s a wq hs h.2;rw [UY] at e;exact e:∀wq,Calls Tryz.prog 72 #[.string s,.int .i64 a] wq λe w'=>e = .returned (.tuple #[.int .i64 (fG s a).1,.int .i64 (fG s a).2])/\w' = wq);clear dj h;generalize fG s a = q at *;go_enter Tryz.func31,Tryz.ntmps31;go_wp2_with fail
 go_region_with (go_at_call 72;refine (xd.out _).mono ?_;rintro e w2 ⟨rfl,hw⟩;simp only [hw];clear hw w2)
 all_goals
  go_wp2;go_ret
  exact ⟨rfl,(zk.keep (w':=w.drew) H.out rfl).set HI.out,((nN.refl [b] w).drew).setCell S' _⟩
theorem Lh (s:ByteArray) (b:Nat) (a:Int) (w:World) (h:zk w b s a) :
 Calls Tryz.prog 39 #[.pointer (some ⟨b,0,none⟩)] w λe w'=>e = .returned (.bool (decide (a < 0)))/\w' = w:=by
 have cO:=h.c1;have am:=h.lt;go_enter Tryz.func39,Tryz.ntmps39;go_wp2;go_ret
 exact ⟨rfl,rfl⟩
theorem UG (s:ByteArray) (b:Nat) (a:Int) (GB:Bool) (w:World) (h:zk w b s a) :
 Calls Tryz.prog 73 #[.pointer (some ⟨b,0,none⟩),.bool GB] w λe w'=>e = .returned (.tuple #[])/\zk w' b s (if GB = true then a else -1)/\nN [b] w w':=by
 have cO:=h.c1;have eO:=h.fz 1;have am:=h.lt;have H:=I h;have HS:=I (h.set (a':=-1) ⟨J,J⟩);have HU:=I (atz b 1 w (.int .i64 (-1)));clear h;cases GB
 ·go_enter Tryz.func73,Tryz.ntmps73;go_wp2;go_returns
  exact ⟨rfl,HS.out,HU.out⟩
 ·go_enter Tryz.func73,Tryz.ntmps73;go_wp2;go_returns
  exact ⟨rfl,H.out,.refl _ _⟩
theorem cI (s:ByteArray) (b:Nat) (a most:Int) (w:World) (h:zk w b s a) (hs:(s.size:Int)<=1048576) (hm:0<=most) :
 Calls Tryz.prog 32 #[.pointer (some ⟨b,0,none⟩),.int .i64 most] w λe w'=>e = .returned (.int .i64 (jC s most a).1)/\zk w' b s (jC s most a).2/\nN [b] w w':=by
 have qT:=I (FT s b a w h hs);have ir:jC s most a = (if (fG s a).1<=most then (if (fG s a).2 < 0 then (0,(fG s a).2) else fG s a) else (0,-1)):=rfl;have HC:=I ir;clear ir;generalize fG s a = q at *;clear h;by_cases eC:q.1<=most
 ·by_cases hn:q.2 < 0
  ·have HF:=I (show jC s most a = (0,q.2) by rw [HC.out,if_pos eC,if_pos hn]);go_enter Tryz.func32,Tryz.ntmps32;go_wp2_with fail
   refine qT.out.mono ?_;rintro e w2 ⟨rfl,dj,ca⟩;have hd:decide (q.1<=most) = true:=(by simp [eC]);go_wp2_with fail
   refine (UG s b q.2 _ _ dj).mono ?_;rintro e w3 ⟨rfl,TR,bJ⟩;rw [if_pos (by first | rfl | exact hd)] at TR;go_wp2_with fail
   refine (Lh s b q.2 _ TR).mono ?_;rw [show decide (q.2 < 0) = true by simp [hn]];exact De
  ·have HF:=I (show jC s most a = q by rw [HC.out,if_pos eC,if_neg hn]);go_enter Tryz.func32,Tryz.ntmps32;go_wp2_with fail
   refine qT.out.mono ?_;rintro e w2 ⟨rfl,dj,ca⟩;have hd:decide (q.1<=most) = true:=(by simp [eC]);go_wp2_with fail
   refine (UG s b q.2 _ _ dj).mono ?_;rintro e w3 ⟨rfl,TR,bJ⟩;rw [if_pos (by first | rfl | exact hd)] at TR;go_wp2_with fail
   refine (Lh s b q.2 _ TR).mono ?_;rw [show decide (q.2 < 0) = false by simp;omega];exact De
 ·have HF:=I (show jC s most a = (0,-1) by rw [HC.out,if_neg eC]);go_enter Tryz.func32,Tryz.ntmps32;go_wp2_with fail
  refine qT.out.mono ?_;rintro e w2 ⟨rfl,dj,ca⟩;have hd:decide (q.1<=most) = false:=by simp;omega
  go_wp2_with fail
  refine (UG s b q.2 _ _ dj).mono ?_;rintro e w3 ⟨rfl,TR,bJ⟩;rw [if_neg (by first | decide | (rw [hd];decide))] at TR;go_wp2_with fail
  refine (Lh s b (-1) _ TR).mono ?_;exact De
theorem CW (s:ByteArray) (b:Nat) (a:Int) (w:World) (h:zk w b s a) (hs:(s.size:Int)<=1048576) :
 Calls Tryz.prog 74 #[.pointer (some ⟨b,0,none⟩)] w λe w'=>e = .returned (.string (dP s a).1)/\zk w' b s (dP s a).2/\nN [b] w w':=by
 by_cases hn:a < 0
 ·have HF:=I (show dP s a = (⟨#[]⟩,a) by unfold dP;rw [if_pos hn]);go_enter Tryz.func74,Tryz.ntmps74;go_wp2_with fail
  refine (Lh s b a _ h).mono ?_;rw [show decide (a < 0) = true by simp [hn]];rintro e w4 ⟨rfl,hw⟩;simp only [hw];clear hw w4;go_wp2;go_ret
  rw [HF.out];exact ⟨rfl,h,.refl _ _⟩
 ·have HF:=I (show dP s a = rU s a by unfold dP;rw [if_neg hn]);have jt:=Oq s a hs;have yo:=h.c0;have cO:=h.c1;have P0:=h.fz 0;have eO:=h.fz 1;have am:=h.lt;have HI:=I (ai6 (n:=(rU s a).2) ⟨jt.2.1,J⟩);have H:=I h;have xd:=I (λwq=>ahb s a wq hs h.2);clear jt;clear h;generalize rU s a = q at *;go_enter Tryz.func74,Tryz.ntmps74;go_wp2_with fail
  refine (Lh s b a _ H.out).mono ?_;rw [show decide (a < 0) = false by simp;omega];rintro e w4 ⟨rfl,hw⟩;simp only [hw];clear hw w4;go_wp2_with fail
  go_region_with (go_at_call 120;refine (xd.out _).mono ?_;rintro e w2 ⟨rfl,hw⟩;simp only [hw];clear hw w2)
  all_goals
   go_wp2;go_ret
   rw [HF.out];exact ⟨rfl,(zk.keep (w':=w.drew) H.out rfl).set HI.out,((nN.refl [b] w).drew).setCell S' _⟩
theorem aJb {P:Program} {C:World->Prop} {v:Value} {r:Result Next} {w:World} (e:r = .ok (.value v) w) (h:C w):outcome P C v r:=by subst e;exact ⟨h,rfl⟩
structure AF where
 kind:Int
 name:ByteArray
 vr:cg
 weights:rZ
instance:bd AF:=bd.pb λx=>(x.kind,x.name,x.vr,x.weights)
def CQ (part whole:Int):Int:=if whole<=0∨part < 0 then 0 else if whole<=part then 100 else 100 * part / whole
theorem Ot {part whole:Int} (h:whole<=0∨part < 0):CQ part whole = 0:=by unfold CQ;rw [if_pos h]
theorem aa2 {part whole:Int} (h1:¬whole<=0) (h2:¬part < 0) (h:whole<=part):CQ part whole = 100:=by unfold CQ;rw [if_neg J,if_pos h]
theorem aa3 {P W:Nat} (hW:0 < W) (h:P < W):CQ P W = ((100 * P / W:Nat):Int):=by
 unfold CQ;rw [if_neg J,if_neg J,Int.natCast_ediv,Int.natCast_mul];rfl
theorem zJ (part whole:Int):0<=CQ part whole/\CQ part whole<=100:=by
 by_cases h1:whole<=0∨part < 0
 ·rw [Ot h1];omega
 ·by_cases h2:whole<=part
  ·rw [aa2 J J h2];omega
  ·obtain ⟨P,rfl⟩:∃P:Nat,part = P:=⟨part.toNat,J⟩;obtain ⟨W,rfl⟩:∃W:Nat,whole = W:=⟨whole.toNat,J⟩;rw [aa3 J J];have:100 * P / W<=100:=(by rw [Nat.div_le_iff_le_mul_add_pred J];rw [Nat.mul_comm W 100];have:100 * P<=100 * W:=Nat.mul_le_mul_left _ J;omega);generalize 100 * P / W = Q at *;omega
theorem IB (part whole:Int) (w:World) (hp:aR part) (hw:aR whole) :
 Calls Tryz.prog 178 #[.int .i64 part,.int .i64 whole] w λe w'=>e = .returned (.int .i64 (CQ part whole))/\Below w.heap.size w w':=by
 by_cases h1:whole<=0
 ·have hd:decide (whole<=0) = true:=by rw [decide_eq_true_eq];exact h1
  have hs:=I (Ot (part:=part) (.inl h1));exact Ds
 have hd:decide (whole<=0) = false:=by rw [decide_eq_false_iff_not];exact h1
 by_cases h2:part < 0
 ·have Ib:decide (part < 0) = true:=by rw [decide_eq_true_eq];exact h2
  have hs:=I (Ot (whole:=whole) (.inr h2));exact Ds
 have Ib:decide (part < 0) = false:=by rw [decide_eq_false_iff_not];exact h2
 by_cases h3:whole<=part
 ·have YA:decide (whole<=part) = true:=by rw [decide_eq_true_eq];exact h3
  have hs:=I (aa2 h1 h2 h3);exact Ds
 have YA:decide (whole<=part) = false:=by rw [decide_eq_false_iff_not];exact h3
 obtain ⟨P,rfl⟩:∃P:Nat,part = P:=⟨part.toNat,J⟩;obtain ⟨W,rfl⟩:∃W:Nat,whole = W:=⟨whole.toNat,J⟩;have hW:W < 9223372036854775808:=by have:=hw.2;omega
 have hPW:P < W:=by omega
 have hs:=I (aa3 (P:=P) (W:=W) J hPW);have sL:0 < W:=by omega
 clear hp hw h1 h2 h3;go_enter Tryz.func178,Tryz.ntmps178;go_wp2_with fail
 go_loopw [5,6,7] (λn r i wr=>∃(j N R:Nat),j<=100/\n = .int .i64 N/\r = .int .i64 R/\i = .int .i64 j/\Hid (N * W+R = j * P)/\R < W/\N<=j/\wr = w) (λ_ _ i _=>100 - (intOf i).toNat)
 case atStart=>exact ⟨0,0,0,J,rfl,rfl,rfl,I S',sL,Nat.le_refl _,rfl⟩
 case round =>
  obtain ⟨j,N,R,hj,rfl,rfl,rfl,HN,hR,hNj,rfl⟩:=hrel;by_cases am:(j:Int) < 100
  ·by_cases hc:(W:Int) - (P:Int)<=(R:Int)
   ·have ir:decide ((W:Int) - (P:Int)<=(R:Int)) = true:=(by rw [decide_eq_true_eq];exact hc);go_wp2_with fail
    refine ⟨⟨j+1,N+1,R - (W - P),J,N',N',N',I ?_,J,J,(by first | rfl | trivial)⟩,by simp [intOf];omega⟩;have:=HN.out;rw [Nat.add_mul,Nat.add_mul];omega
   ·have ir:decide ((W:Int) - (P:Int)<=(R:Int)) = false:=(by rw [decide_eq_false_iff_not];exact hc);go_wp2_with fail
    refine ⟨⟨j+1,N,R+P,J,rfl,N',N',I ?_,J,J,(by first | rfl | trivial)⟩,by simp [intOf];omega⟩;have:=HN.out;rw [Nat.add_mul j];omega
  ·obtain rfl:j = 100:=by omega
   go_wp2_with fail
   go_ret
   exact ⟨by rw [hs.out,<- apY HN.out hR];rfl,aj _⟩
def JO (key:ByteArray) (l:ao):Bool:=l.key.toList == key.toList
def Df (key:ByteArray) (xs:List ao):ByteArray × Bool:=match xs.find? (JO key) with | some l=>(l.value,true) | none=>(⟨#[]⟩,false)
theorem adM {key:ByteArray} {xs:List ao} {k:Nat} (hk:k < xs.length) (hn:∀l∈xs.take k,JO key l = false) (hp:JO key xs[k] = true):Df key xs = (xs[k].value,true):=by
 have e:xs.find? (JO key) = some xs[k]:=by rw [List.find?_eq_some_iff_append];exact ⟨hp,xs.take k,xs.drop (k+1),by rw [List.getElem_cons_drop,List.take_append_drop],λa ha=>by simp [hn a ha]⟩
 unfold Df;rw [e]
theorem agB {key:ByteArray} {xs:List ao} (hn:∀l∈xs,JO key l = false):Df key xs = (⟨#[]⟩,false):=by
 have e:xs.find? (JO key) = none:=by rw [List.find?_eq_none];intro l hl;simp [hn l hl]
 unfold Df;rw [e]
theorem akK (xs:List ao) (key:ByteArray) (A:Option Addr) (n c:Nat) (F:List Nat) (w:World) (h:Sl w xs A c F) (hn:n = xs.length) (hl:(xs.length:Int)<=1048576) :
 Calls Tryz.prog 233 #[.slice A n c,.string key] w λe w'=>e = .returned (.tuple #[.string (Df key xs).1,.bool (Df key xs).2])/\Below w.heap.size w w':=by
 subst hn;go_enter Tryz.func233,Tryz.ntmps233;go_wp2_with fail
 go_loopw [6] (λi wr=>∃k:Nat,k<=xs.length/\i = .int .i64 k/\Hid (∀l∈xs.take k,JO key l = false)/\Below w.heap.size w wr) (λi _=>xs.length - (intOf i).toNat)
 case atStart=>exact ⟨0,Nat.zero_le _,rfl,by show ∀_,_;simp,bc⟩
 case round =>
  obtain ⟨k,hk,rfl,HN,ax⟩:=hrel;by_cases am:k < xs.length
  ·obtain ⟨b,o,ck,Fk,rfl,o9,hbs,hr,bm,hc⟩:=(Sl.ext (w':=wr) (A:=A) (c:=c) h ax).get am;obtain ⟨aq,su,b9,kP⟩:=vO hr;subst aq;obtain ⟨q0,q1⟩:=xN 2 hc;clear hc;cases hp:JO key xs[k] with
   | true =>
     have HF:=I (adM am HN.out hp);unfold JO at hp;go_wp2;go_returns
     exact ⟨by rw [HF.out];rfl,bc⟩
   | false =>have Gn:=I (yQ am HN.out hp);unfold JO at hp;exact DC
  ·have bs:k = xs.length:=J;subst bs;have hn:=HN.out;rw [List.take_length] at hn;have HF:=I (agB hn);clear hn;go_wp2;go_returns
   exact ⟨by rw [HF.out];rfl,bc⟩
theorem aZ {α:Type} [bd α] {w w':World} {x:α} {cs:List Value} {F:List Nat} (h:rd w x cs F) (hb:Below w.heap.size w w'):rd w' x cs F :=
 bd.frame h (λb d8=>hb.block b (bd.lt h b d8)) hb.size
def MF (s:ByteArray) (xs:List ByteArray):Bool:=xs.any λv=>v.toList == s.toList
theorem ar4 {s:ByteArray} {xs:List ByteArray} {k:Nat} (hk:k < xs.length) (hp:(xs[k].toList == s.toList) = true):MF s xs = true:=by
 unfold MF;rw [List.any_eq_true];exact ⟨xs[k],List.getElem_mem ..,hp⟩
theorem atn {s:ByteArray} {xs:List ByteArray} (hn:∀v∈xs,(v.toList == s.toList) = false):MF s xs = false:=by
 unfold MF;rw [List.any_eq_false];intro v hv;simp [hn v hv]
theorem aaG (xs:List ByteArray) (s:ByteArray) (A:Option Addr) (n c:Nat) (F:List Nat) (w:World) (h:Sl w xs A c F) (hn:n = xs.length) (hl:(xs.length:Int)<=1048576) :
 Calls Tryz.prog 234 #[.slice A n c,.string s] w λe w'=>e = .returned (.bool (MF s xs))/\Below w.heap.size w w':=by
 subst hn;go_enter Tryz.func234,Tryz.ntmps234;go_wp2_with fail
 go_loopw [5] (λi wr=>∃k:Nat,k<=xs.length/\i = .int .i64 k/\Hid (∀v∈xs.take k,(v.toList == s.toList) = false)/\Below w.heap.size w wr) (λi _=>xs.length - (intOf i).toNat)
 case atStart=>exact ⟨0,Nat.zero_le _,rfl,by show ∀_,_;simp,bc⟩
 case round =>
  obtain ⟨k,hk,rfl,HN,ax⟩:=hrel;by_cases am:k < xs.length
  ·obtain ⟨b,o,ck,Fk,rfl,o9,hbs,hr,bm,hc⟩:=(Sl.ext (w':=wr) (A:=A) (c:=c) h ax).get am;obtain ⟨aq,su,eJ⟩:=hr;subst aq su;have q0:wr.cell? ⟨b,o+k,none⟩ = some (.string xs[k]):=(by have:=hc 0 _ rfl;rwa [show o+(k * bd.size ByteArray+0) = o+k from by show o+(k * 1+0) = _;omega] at this);clear hc;cases hp:(xs[k].toList == s.toList) with
   | true =>have oz:(s.toList == xs[k].toList) = true:=(by rw [BEq.comm];exact hp);have HF:=I (ar4 am hp);exact ep
   | false =>have oz:(s.toList == xs[k].toList) = false:=(by rw [BEq.comm];exact hp);have Gn:=I (yQ (p:=λv:ByteArray=>v.toList == s.toList) am HN.out hp);exact DC
  ·have bs:k = xs.length:=J;subst bs;have hn:=HN.out;rw [List.take_length] at hn;have HF:=I (atn hn);clear hn;exact ep
def vv (labels:List ao) (x:aE):Bool:=uh x &&
 (if x.op = 1 then (Df x.key labels).2&&MF (Df x.key labels).1 x.values
  else if x.op = 2 then !(Df x.key labels).2 || !MF (Df x.key labels).1 x.values
  else if x.op = 3 then (Df x.key labels).2 else !(Df x.key labels).2)
theorem apu {labels:List ao} {x:aE} (h:uh x = false):vv labels x = false:=by unfold vv;rw [h];rfl
theorem aiV {x:aE} (h:uh x = true):x.op = 1∨x.op = 2∨x.op = 3∨x.op = 4:=by
 unfold uh at h;exact sC
theorem abZ (labels:List ao) (x:aE) (A:Option Addr) (n c:Nat) (F:List Nat) (cs:List Value) (G:List Nat) (w:World) (h:Sl w labels A c F) (hn:n = labels.length) (h':rd w x cs G) (dq:(labels.length:Int)<=1048576)
 (kO:(x.key.size:Int)<=1048576) (hl:(x.values.length:Int)<=1048576) (cR:∀v∈x.values,(v.size:Int)<=1048576) :
 Calls Tryz.prog 222 #[.slice A n c,.agg cs.toArray] w λe w'=>e = .returned (.bool (vv labels x))/\Below w.heap.size w w':=by
 subst hn;have Eo:=I cR;clear cR;have hr:=h';obtain ⟨jy,ji,Bo,aq,qp,b9,hop,kV⟩:=og hr;subst aq;clear qp hr;cases hK:uh x with
 | false =>
   have HF:=I (apu (labels:=labels) hK);have HK:=I hK;clear hK;go_enter Tryz.func222,Tryz.ntmps222;go_wp2_with fail
   refine (Rx x _ _ _ (aJ h' bc) kO hl Eo.out).mono ?_;rw [HK.out];rintro e w2 ⟨rfl,ap⟩;exact ep
 | true =>
   have Zs:=aiV hK
   have HU:=I (show vv labels x = (if x.op = 1 then (Df x.key labels).2&&MF (Df x.key labels).1 x.values
  else if x.op = 2 then !(Df x.key labels).2 || !MF (Df x.key labels).1 x.values
  else if x.op = 3 then (Df x.key labels).2 else !(Df x.key labels).2) by unfold vv;rw [hK,Bool.true_and])
   have HK:=I hK;clear hK;obtain ⟨v,t,hvt⟩:∃v t,Df x.key labels = (v,t):=⟨_,_,rfl⟩;have hu:=HU.out;rw [hvt] at hu;have HL:=I hvt;clear HU hvt;go_enter Tryz.func222,Tryz.ntmps222;go_wp2_with fail
   refine (Rx x _ _ _ (aJ h' bc) kO hl Eo.out).mono ?_;rw [HK.out];rintro e w2 ⟨rfl,ap⟩;obtain ⟨bX,cE⟩:=ay ap;have cr:w.heap.size < w2.heap.size:=(by have:=ap.size;simp at this;omega);have YI:w2.cell? ⟨w.heap.size,0,none⟩ = some (.string x.key):=(by rw [bX _ _ S',cell_of_row _ _ _ _ _ _ (heap_alloc_new w _)];rfl);have lz:w2.cell? ⟨w.heap.size,1,none⟩ = some (.int .i64 x.op):=(by rw [bX _ _ S',cell_of_row _ _ _ _ _ _ (heap_alloc_new w _)];rfl);have me:w2.cell? ⟨w.heap.size,2,none⟩ = some (.slice jy x.values.length ji):=(by rw [bX _ _ S',cell_of_row _ _ _ _ _ _ (heap_alloc_new w _)];rfl);have eu:Below w.heap.size w w2:=bc;clear bX cE;go_wp2_with fail
   refine (akK labels x.key _ _ _ _ _ (h.ext eu) rfl dq).mono ?_;rw [HL.out];rintro e w3 ⟨rfl,ba⟩;replace lz:=r' ba lz cr;replace me:=r' ba me cr;have eN:w.heap.size < w3.heap.size:=(by have:=ba.size;omega);have cT:=ah eu ba;clear YI;have HU:=I hu;clear hu;rcases Zs with hop | hop | hop | hop
   all_goals
    have hu:=HU.out;rw [hop] at hu lz;simp only [Int.reduceEq,↓reduceIte] at hu;cases hh:MF v x.values <;> cases t
    all_goals
     have ca:=hu;try rw [hh] at ca
     have lV:=I ca;have HH:=I hh;clear ca hu hh hop;go_wp2_with (go_at_call 234;refine (aaG x.values v _ _ _ _ _ (kV.ext bc) rfl hl).mono ?_;rw [HH.out];rintro e w4 ⟨rfl,bC⟩)
     go_ret
     exact ⟨by rw [lV.out];rfl,bc⟩
def Hw (labels:List ao) (xs:List aE):Bool:=xs.all (vv labels)
theorem acu {labels:List ao} {xs:List aE} {k:Nat} (hk:k < xs.length) (h:vv labels xs[k] = false):Hw labels xs = false:=by
 unfold Hw;rw [List.all_eq_false];exact ⟨xs[k],List.getElem_mem ..,by simp [h]⟩
theorem amX {α:Type} {p:α->Bool} {xs:List α} {k:Nat} (hk:k < xs.length) (h:∀x∈xs.take k,p x = true) (hx:p xs[k] = true):∀x∈xs.take (k+1),p x = true:=by
 rw [List.take_succ_eq_append_getElem hk];intro x hm;rcases List.mem_append.1 hm with hm | hm
 ·exact h x hm
 ·simp only [List.mem_singleton] at hm;rw [hm];exact hx
theorem acv {labels:List ao} {xs:List aE} (h:∀x∈xs,vv labels x = true):Hw labels xs = true:=by
 unfold Hw;rw [List.all_eq_true];exact h
theorem alb (xs:List aE) (labels:List ao) (A B:Option Addr) (n m c d:Nat) (F G:List Nat) (w:World) (h:Sl w xs A c F) (h':Sl w labels B d G) (hn:n = xs.length) (hm:m = labels.length) (hl:(xs.length:Int)<=1048576) (dq:(labels.length:Int)<=1048576)
 (cR:(∀l∈xs,(l.key.size:Int)<=1048576/\(l.values.length:Int)<=1048576/\∀v∈l.values,(v.size:Int)<=1048576)) :
 Calls Tryz.prog 202 #[.slice A n c,.slice B m d] w λe w'=>e = .returned (.bool (Hw labels xs))/\Below w.heap.size w w':=by
 subst hn hm;have Eo:=I cR;clear cR;go_enter Tryz.func202,Tryz.ntmps202;go_wp2_with fail
 go_loopw [5] (λi wr=>∃k:Nat,k<=xs.length/\i = .int .i64 k/\Hid (∀x∈xs.take k,vv labels x = true)/\Below w.heap.size w wr) (λi _=>xs.length - (intOf i).toNat)
 case atStart=>exact ⟨0,Nat.zero_le _,rfl,by show ∀_,_;simp,bc⟩
 case round =>
  obtain ⟨k,hk,rfl,HN,ax⟩:=hrel;by_cases am:k < xs.length
  ·obtain ⟨b,o,ck,Fk,rfl,o9,hbs,hr,bm,hc⟩:=(Sl.ext (w':=wr) (A:=A) (c:=c) h ax).get am;obtain ⟨jy,ji,Bo,aq,su,b9,hop,kV⟩:=og hr;subst aq;obtain ⟨q0,q1,q2⟩:=iX 3 hc;clear hc;obtain ⟨cF,cC,hs3⟩:=Eo.out xs[k] (List.getElem_mem ..);cases hp:vv labels xs[k] with
   | true =>
     have Gn:=I (amX am HN.out hp);have HP:=I hp;clear hp;go_wp2_with fail
     refine (abZ labels xs[k] _ _ _ _ _ _ _ (h'.ext bc) rfl (aJ hr bc) dq cF cC hs3).mono ?_;rw [HP.out];rintro e wn ⟨rfl,hn⟩;exact DC
   | false =>
     have HF:=I (acu am hp);have HP:=I hp;clear hp;go_wp2_with fail
     refine (abZ labels xs[k] _ _ _ _ _ _ _ (h'.ext bc) rfl (aJ hr bc) dq cF cC hs3).mono ?_;rw [HP.out];rintro e wn ⟨rfl,hn⟩;exact ep
  ·have bs:k = xs.length:=J;subst bs;have hn:=HN.out;rw [List.take_length] at hn;have HF:=I (acv hn);clear hn;exact ep
end Go.Proofs.YtjahcnjmjahbaaaGreat
