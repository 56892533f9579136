/- Draws of lists of labels, taints, tolerances. No condition. -/
import Derived.Test.YtajbbmembionpaaGreatKeepO
namespace Go.Proofs.YtajbbmembionpaaGreat
open Go.ChangeShapes Go.WideShapes Go.ChangeAt Go.RowKit
set_option linter.unusedVariables false
set_option linter.unusedSimpArgs false
set_option maxHeartbeats 4000000
set_option maxRecDepth 100000
theorem len8 {s:ByteArray} (h:s.size≤8):s.size≤maxLen:=by unfold maxLen;omega
theorem bJ.below {w w':World} {c n cap B:Nat} {A:Option Addr} (h:bJ w c A n cap) (hb:Below B w w') (hc:c < B):bJ w' c A n cap:=by
 obtain ⟨⟨i,x,t,h1,h2⟩,h3,h4⟩:=h;refine ⟨⟨i,x,t,(hb.block c hc).trans h1,h2⟩,fun k hk=>?_,h4⟩;obtain ⟨g,o,v,e,hg,hv,f9⟩:=h3 k hk;exact ⟨g,o,v,e,hg,(World.cell?_of_block (hb.block g J)).trans hv,f9⟩
theorem nN.jt {F:List Nat} {w w1 w2:World} {B:Nat} (h:nN F w w1) (hb:Below B w1 w2) (hB:w.heap.size≤B):nN F w w2 :=
 ⟨hb.os.trans h.os,hb.tape.trans h.tape,hb.output.trans h.output,Nat.le_trans h.size hb.size,fun i hi hn=>(hb.block i J).trans (h.block i hi hn)⟩
theorem am.KU {α:Type} [ba α] {w w':World} {B B2:Nat} {x:α} {cs:List Value} {F:List Nat} (h:am w B x cs F) (hb:Below B2 w w') (hF:∀b∈F,b < B2):am w' B x cs F :=
 h.keep (fun b hm=>hb.block b (hF b hm)) hb.size
theorem azD {xs:List iU} (h:(Fq xs).2 = true):La (Fq xs).1 = true:=by
 unfold Fq at h ⊢;exact zA
theorem pZ (w:World) (c:Nat) (A:Option Addr) (n cap:Nat) (h:bJ w c A n cap) :
 Calls Tryz.prog 161 #[.pointer (some ⟨c,0,none⟩)] w fun e w'=>∃(xs:List iU) (A':Option Addr) (c':Nat) (G:List Nat),e = .returned (.slice A' xs.length c')∧am w' w.heap.size xs [.slice A' xs.length c'] G∧La xs = true∧bJ w' c A n cap∧nN [c] w w'∧er w' w.heap.size 126 3 A' c':=by
 have aq:=h.lt;have HC:=I h;clear h;go_enter Tryz.func161,Tryz.ntmps161;go_wp2_with fail
 go_loopw [3,4] (fun v i wr=>∃(xs:List iU) (A':Option Addr) (c':Nat) (G:List Nat) (k:Nat),v = .slice A' xs.length c'∧i = .int .i64 k∧(k:Int)≤2∧am wr w.heap.size xs [.slice A' xs.length c'] G∧Hid (La xs = true)∧bJ wr c A n cap∧nN [c] w wr∧Hid (er wr w.heap.size 126 3 A' c')) (fun _ i _=>2 - (intOf i).toNat)
 case atStart =>obtain ⟨A',c',G,hv,hO⟩:=am.oJ (α:=iU) (D9 w 126 3 w.heap.size rfl) (aY.nil _ _) (fun g _ hm=>by cases hm);simp only [Value.slice.injEq,List.length_nil] at hv;obtain ⟨rfl,_,rfl⟩:=hv;exact ⟨[],_,_,G,0,rfl,rfl,J,hO,I rfl,HC.out.ext (ak (aj _) _),nN.lq _ (ak (aj _) _),I (er.oJ (D9 w 126 3 w.heap.size rfl) (Nat.le_refl _))⟩
 case round =>
  obtain ⟨xs,A',c',G,k,rfl,rfl,hk,hO,Du,hcur,hur,l8⟩:=hrel;have HO:=I hO;have sH:=I hcur;have sI:=I hur;have mo:=hur.size;have RG:(xs.length:Int)≤204:=by have h1:=gJ iU.wt xs;have:=Nd Du.out;omega
  clear hO hcur hur;go_wp2_with fail
  refine (ik 3 J _ c A n cap sH.out).mono ?_;rintro e w1 ⟨r,rfl,hr,H1,hu1⟩;have gb:=I (HO.out.drawn hu1 aq);have gA:=I (sI.out.trans hu1);have qv:=I (l8.out.drawn hu1 aq);have cg:=hu1.size;have dz:=I H1;clear H1 hu1 HO sH sI l8;by_cases hkr:(k:Int) < r
  ·have sJ:=I gb.out.lt;have gx:=I qv.out.lt;have cU:=dz.out.lt
   go_wp2_with (
    at_builtin
    go_must (refine rW rz O O _ _ O (w1.alloc (.cells #[] 126)) w1.heap.size _ 0 [] (D9 w1 126 3 w1.heap.size rfl) O xs A' c' G ((show Sl w1 xs A' c' G from gb.out.rd).ext (ak (aj _) _)) O J J S' ?_)
    intro v2 w2 ds G2 dq bv bd hg cQ;go_must (obtain ⟨A2,c2,gF⟩:=mY bd)
    go_must (subst gF)
    go_must (have ap:Below w1.heap.size w1 w2:=lS (World.ownsRow_made (e:=126) (size:=3) w1 #[] 0 (Nat.le_refl _) (Nat.zero_le _) S') hg (ak (aj _) _) S'))
   simp only [Nat.zero_add,List.nil_append] at bd;try simp only [Nat.zero_add]
   obtain rfl:=ye (fun hh=>(oK hh).2.1) dq;have mK:=I dq;have pk:=I (dz.out.ext ap);have RZ:=I (gb.out.ext ap);have BS:=I (qv.out.ext ap);have cV:=I (gA.out.jt ap J);have cj:=ap.size;have sK:=I bd;clear dq bv bd hg cQ ap;refine (aC9 _ c A n cap pk.out).mono ?_;rintro e w3 ⟨y,rfl,hy,H3,bt⟩;have cO:=I H3;clear H3;have gz:=I (RZ.out.drawn bt aq);have BV:=I (BS.out.drawn bt aq);have d9:=I (cV.out.trans bt);have en:=rQ sK.out bt (show c < w1.heap.size by omega);have cW:=bt.size;have mq:w1.heap.size≤w3.heap.size:=J
   go_wp2_with (
    at_builtin
    go_must (refine lC rz O _ _ O _ _ _ _ _ en O [.string y.key,.string y.value,.int .i64 y.effect] jI O eC J J mq ?_)
    intro v4 w4 cZ ia Wy;go_must (obtain ⟨A4,c4,hv4⟩:=mY cZ)
    go_must (subst hv4)
    go_must (have bu:Below w1.heap.size w3 w4:=lS en ia (Below.refl _ _) mq))
   have cY:(xs++[y]).length = xs.length+1:=S';have xr:aY w4 w1.heap.size (xs++[y]) (ds++[.string y.key,.string y.value,.int .i64 y.effect]) []:=aY.push (B':=w1.heap.size) ⟨mK.out.frame (fun b hb=>by cases hb) (by simp;omega),List.nodup_nil,(fun b hb=>by cases hb),(fun b hb=>by cases hb)⟩ (am.flat (Q8 w4 y (len8 hy.1) (len8 hy.2.1) nW)) (Nat.le_refl _) (fun b hb=>by cases hb);obtain ⟨A5,c5,G5,d8,fH⟩:=am.oJ (α:=iU) (xs:=xs++[y]) Mw xr (fun g _ hm=>by cases hm);rw [cY] at d8;simp only [Value.slice.injEq,true_and] at d8;obtain ⟨rfl,rfl⟩:=d8
   have HS:=V5 (xs++[y]) A4 c4 G5 w4 fH.rd J (fun l hl=>by
    rcases List.mem_append.1 hl with hl | hl
    ·have h1:=Bq (f:=iU.wt) hl;have h2:iU.wt l = l.key.size+l.value.size:=rfl;have:=Nd Du.out;omega
    ·rw [List.mem_singleton] at hl;subst hl;omega)
   rw [cY] at HS;have fk:=I (cO.out.below bu J);have lz:=I (gz.out.KU bu sJ.out);have ER:=I (BV.out.keep fun g hg=>bu.block g (gx.out g hg));have iC:=I (d9.out.jt bu J);have kr:=I (fun h=>azD (xs:=xs++[y]) h);have MQ:=bu.size;clear fH xr cZ ia bu en bt sK mK gb gA dz RZ cV pk cO gz d9 sJ;refine HS.mono ?_;clear HS;generalize Fq (xs++[y]) = R at *;exact yU
  ·exact uG
theorem aBo {xs:List bH} (h:(kA xs).2 = true):Ya (kA xs).1 = true:=by
 unfold kA at h ⊢;exact zA
theorem eE (w:World) (c:Nat) (A:Option Addr) (n cap:Nat) (h:bJ w c A n cap) :
 Calls Tryz.prog 115 #[.pointer (some ⟨c,0,none⟩)] w fun e w'=>∃(xs:List bH) (A':Option Addr) (c':Nat) (G:List Nat),e = .returned (.slice A' xs.length c')∧am w' w.heap.size xs [.slice A' xs.length c'] G∧Ya xs = true∧bJ w' c A n cap∧nN [c] w w'∧er w' w.heap.size 117 4 A' c':=by
 have aq:=h.lt;have HC:=I h;clear h;go_enter Tryz.func115,Tryz.ntmps115;go_wp2_with fail
 go_loopw [3,4] (fun v i wr=>∃(xs:List bH) (A':Option Addr) (c':Nat) (G:List Nat) (k:Nat),v = .slice A' xs.length c'∧i = .int .i64 k∧(k:Int)≤2∧am wr w.heap.size xs [.slice A' xs.length c'] G∧Hid (Ya xs = true)∧bJ wr c A n cap∧nN [c] w wr∧Hid (er wr w.heap.size 117 4 A' c')) (fun _ i _=>2 - (intOf i).toNat)
 case atStart =>obtain ⟨A',c',G,hv,hO⟩:=am.oJ (α:=bH) (D9 w 117 4 w.heap.size rfl) (aY.nil _ _) (fun g _ hm=>by cases hm);simp only [Value.slice.injEq,List.length_nil] at hv;obtain ⟨rfl,_,rfl⟩:=hv;exact ⟨[],_,_,G,0,rfl,rfl,J,hO,I rfl,HC.out.ext (ak (aj _) _),nN.lq _ (ak (aj _) _),I (er.oJ (D9 w 117 4 w.heap.size rfl) (Nat.le_refl _))⟩
 case round =>
  obtain ⟨xs,A',c',G,k,rfl,rfl,hk,hO,Du,hcur,hur,l8⟩:=hrel;have HO:=I hO;have sH:=I hcur;have sI:=I hur;have mo:=hur.size;have RG:(xs.length:Int)≤204:=by have h1:=gJ bH.wt xs;have:=Dk Du.out;omega
  clear hO hcur hur;go_wp2_with fail
  refine (ik 3 J _ c A n cap sH.out).mono ?_;rintro e w1 ⟨r,rfl,hr,H1,hu1⟩;have gb:=I (HO.out.drawn hu1 aq);have gA:=I (sI.out.trans hu1);have qv:=I (l8.out.drawn hu1 aq);have cg:=hu1.size;have dz:=I H1;clear H1 hu1 HO sH sI l8;by_cases hkr:(k:Int) < r
  ·have sJ:=I gb.out.lt;have gx:=I qv.out.lt;have cU:=dz.out.lt
   go_wp2_with (
    at_builtin
    go_must (refine rW pC O O _ _ O (w1.alloc (.cells #[] 117)) w1.heap.size _ 0 [] (D9 w1 117 4 w1.heap.size rfl) O xs A' c' G ((show Sl w1 xs A' c' G from gb.out.rd).ext (ak (aj _) _)) O J J S' ?_)
    intro v2 w2 ds G2 dq bv bd hg cQ;go_must (obtain ⟨A2,c2,gF⟩:=mY bd)
    go_must (subst gF)
    go_must (have ap:Below w1.heap.size w1 w2:=lS (World.ownsRow_made (e:=117) (size:=4) w1 #[] 0 (Nat.le_refl _) (Nat.zero_le _) S') hg (ak (aj _) _) S'))
   simp only [Nat.zero_add,List.nil_append] at bd;try simp only [Nat.zero_add]
   obtain rfl:=ye (fun hh=>(jv hh).2.1) dq;have mK:=I dq;have pk:=I (dz.out.ext ap);have RZ:=I (gb.out.ext ap);have BS:=I (qv.out.ext ap);have cV:=I (gA.out.jt ap J);have cj:=ap.size;have sK:=I bd;clear dq bv bd hg cQ ap;refine (Xa _ c A n cap pk.out).mono ?_;rintro e w3 ⟨y,rfl,hy,H3,bt⟩;have cO:=I H3;clear H3;have gz:=I (RZ.out.drawn bt aq);have BV:=I (BS.out.drawn bt aq);have d9:=I (cV.out.trans bt);have en:=rQ sK.out bt (show c < w1.heap.size by omega);have cW:=bt.size;have mq:w1.heap.size≤w3.heap.size:=J
   go_wp2_with (
    at_builtin
    go_must (refine lC pC O _ _ O _ _ _ _ _ en O [.string y.key,.bool y.equal,.string y.value,.int .i64 y.effect] jI O eC J J mq ?_)
    intro v4 w4 cZ ia Wy;go_must (obtain ⟨A4,c4,hv4⟩:=mY cZ)
    go_must (subst hv4)
    go_must (have bu:Below w1.heap.size w3 w4:=lS en ia (Below.refl _ _) mq))
   have cY:(xs++[y]).length = xs.length+1:=S';have xr:aY w4 w1.heap.size (xs++[y]) (ds++[.string y.key,.bool y.equal,.string y.value,.int .i64 y.effect]) []:=aY.push (B':=w1.heap.size) ⟨mK.out.frame (fun b hb=>by cases hb) (by simp;omega),List.nodup_nil,(fun b hb=>by cases hb),(fun b hb=>by cases hb)⟩ (am.flat (Ov w4 y (len8 hy.1) (len8 hy.2.1) nW)) (Nat.le_refl _) (fun b hb=>by cases hb);obtain ⟨A5,c5,G5,d8,fH⟩:=am.oJ (α:=bH) (xs:=xs++[y]) Mw xr (fun g _ hm=>by cases hm);rw [cY] at d8;simp only [Value.slice.injEq,true_and] at d8;obtain ⟨rfl,rfl⟩:=d8
   have HS:=WI (xs++[y]) A4 c4 G5 w4 fH.rd J (fun l hl=>by
    rcases List.mem_append.1 hl with hl | hl
    ·have h1:=Bq (f:=bH.wt) hl;have h2:bH.wt l = l.key.size+l.value.size:=rfl;have:=Dk Du.out;omega
    ·rw [List.mem_singleton] at hl;subst hl;omega)
   rw [cY] at HS;have fk:=I (cO.out.below bu J);have lz:=I (gz.out.KU bu sJ.out);have ER:=I (BV.out.keep fun g hg=>bu.block g (gx.out g hg));have iC:=I (d9.out.jt bu J);have kr:=I (fun h=>aBo (xs:=xs++[y]) h);have MQ:=bu.size;clear fH xr cZ ia bu en bt sK mK gb gA dz RZ cV pk cO gz d9 sJ;refine HS.mono ?_;clear HS;generalize kA (xs++[y]) = R at *;exact yU
  ·exact uG
theorem ayH (w:World) (c:Nat) (A:Option Addr) (n cap:Nat) (h:bJ w c A n cap) :
 Calls Tryz.prog 115 #[.pointer (some ⟨c,0,none⟩)] w fun e w'=>∃(xs:List bH) (A':Option Addr) (c':Nat) (G:List Nat),e = .returned (.slice A' xs.length c')∧am w' w.heap.size xs [.slice A' xs.length c'] G∧kL bH.wt xs≤204∧bJ w' c A n cap∧nN [c] w w'∧er w' w.heap.size 117 4 A' c' :=
 (eE w c A n cap h).mono fun _ _ ⟨xs,A',c',G,a,b,d,e⟩=>⟨xs,A',c',G,a,b,Dk d,e⟩
theorem azG {xs:List ao} (h:(BG xs).2 = true):sD (BG xs).1 = true:=by
 unfold BG at h ⊢;exact zA
theorem iA (w:World) (c:Nat) (A:Option Addr) (n cap:Nat) (h:bJ w c A n cap) :
 Calls Tryz.prog 111 #[.pointer (some ⟨c,0,none⟩)] w fun e w'=>∃(xs:List ao) (A':Option Addr) (c':Nat) (G:List Nat),e = .returned (.slice A' xs.length c')∧am w' w.heap.size xs [.slice A' xs.length c'] G∧sD xs = true∧bJ w' c A n cap∧nN [c] w w'∧er w' w.heap.size 67 2 A' c':=by
 have aq:=h.lt;have HC:=I h;clear h;go_enter Tryz.func111,Tryz.ntmps111;go_wp2_with fail
 go_loopw [3,4] (fun v i wr=>∃(xs:List ao) (A':Option Addr) (c':Nat) (G:List Nat) (k:Nat),v = .slice A' xs.length c'∧i = .int .i64 k∧(k:Int)≤3∧am wr w.heap.size xs [.slice A' xs.length c'] G∧Hid (sD xs = true)∧bJ wr c A n cap∧nN [c] w wr∧Hid (er wr w.heap.size 67 2 A' c')) (fun _ i _=>3 - (intOf i).toNat)
 case atStart =>obtain ⟨A',c',G,hv,hO⟩:=am.oJ (α:=ao) (D9 w 67 2 w.heap.size rfl) (aY.nil _ _) (fun g _ hm=>by cases hm);simp only [Value.slice.injEq,List.length_nil] at hv;obtain ⟨rfl,_,rfl⟩:=hv;exact ⟨[],_,_,G,0,rfl,rfl,J,hO,I rfl,HC.out.ext (ak (aj _) _),nN.lq _ (ak (aj _) _),I (er.oJ (D9 w 67 2 w.heap.size rfl) (Nat.le_refl _))⟩
 case round =>
  obtain ⟨xs,A',c',G,k,rfl,rfl,hk,hO,Du,hcur,hur,l8⟩:=hrel;have HO:=I hO;have sH:=I hcur;have sI:=I hur;have mo:=hur.size;have RG:(xs.length:Int)≤306:=by have h1:=gJ ao.wt xs;have:=Bb Du.out;omega
  clear hO hcur hur;go_wp2_with fail
  refine (ik 4 J _ c A n cap sH.out).mono ?_;rintro e w1 ⟨r,rfl,hr,H1,hu1⟩;have gb:=I (HO.out.drawn hu1 aq);have gA:=I (sI.out.trans hu1);have qv:=I (l8.out.drawn hu1 aq);have cg:=hu1.size;have dz:=I H1;clear H1 hu1 HO sH sI l8;by_cases hkr:(k:Int) < r
  ·have sJ:=I gb.out.lt;have gx:=I qv.out.lt;have cU:=dz.out.lt
   go_wp2_with (
    at_builtin
    go_must (refine rW k9 O O _ _ O (w1.alloc (.cells #[] 67)) w1.heap.size _ 0 [] (D9 w1 67 2 w1.heap.size rfl) O xs A' c' G ((show Sl w1 xs A' c' G from gb.out.rd).ext (ak (aj _) _)) O J J S' ?_)
    intro v2 w2 ds G2 dq bv bd hg cQ;go_must (obtain ⟨A2,c2,gF⟩:=mY bd)
    go_must (subst gF)
    go_must (have ap:Below w1.heap.size w1 w2:=lS (World.ownsRow_made (e:=67) (size:=2) w1 #[] 0 (Nat.le_refl _) (Nat.zero_le _) S') hg (ak (aj _) _) S'))
   simp only [Nat.zero_add,List.nil_append] at bd;try simp only [Nat.zero_add]
   obtain rfl:=ye (fun hh=>(vO hh).2.1) dq;have mK:=I dq;have pk:=I (dz.out.ext ap);have RZ:=I (gb.out.ext ap);have BS:=I (qv.out.ext ap);have cV:=I (gA.out.jt ap J);have cj:=ap.size;have sK:=I bd;clear dq bv bd hg cQ ap;refine (J0 _ c A n cap pk.out).mono ?_;rintro e wa ⟨s1,rfl,cX,Ha,hua⟩;have Zw:=I Ha;clear Ha;go_wp2_with fail
   refine (J3 _ c A n cap Zw.out).mono ?_;rintro e w3 ⟨s2,rfl,cM,H3,Mz⟩;have bt:nN [c] w2 w3:=hua.trans Mz;have cO:=I H3;clear H3 Zw hua Mz;obtain ⟨y,rfl,rfl⟩:∃y:ao,s1 = y.key∧s2 = y.value:=⟨⟨s1,s2⟩,rfl,rfl⟩;have hy:=And.intro cX cM;have gz:=I (RZ.out.drawn bt aq);have BV:=I (BS.out.drawn bt aq);have d9:=I (cV.out.trans bt);have en:=rQ sK.out bt (show c < w1.heap.size by omega);have cW:=bt.size;have mq:w1.heap.size≤w3.heap.size:=J
   go_wp2_with (
    at_builtin
    go_must (refine lC k9 O _ _ O _ _ _ _ _ en O [.string y.key,.string y.value] jI O eC J J mq ?_)
    intro v4 w4 cZ ia Wy;go_must (obtain ⟨A4,c4,hv4⟩:=mY cZ)
    go_must (subst hv4)
    go_must (have bu:Below w1.heap.size w3 w4:=lS en ia (Below.refl _ _) mq))
   have cY:(xs++[y]).length = xs.length+1:=S';have xr:aY w4 w1.heap.size (xs++[y]) (ds++[.string y.key,.string y.value]) []:=aY.push (B':=w1.heap.size) ⟨mK.out.frame (fun b hb=>by cases hb) (by simp;omega),List.nodup_nil,(fun b hb=>by cases hb),(fun b hb=>by cases hb)⟩ (am.flat (ID w4 y (len8 hy.1) (len8 hy.2))) (Nat.le_refl _) (fun b hb=>by cases hb);obtain ⟨A5,c5,G5,d8,fH⟩:=am.oJ (α:=ao) (xs:=xs++[y]) Mw xr (fun g _ hm=>by cases hm);rw [cY] at d8;simp only [Value.slice.injEq,true_and] at d8;obtain ⟨rfl,rfl⟩:=d8
   have HS:=VW (xs++[y]) A4 c4 G5 w4 fH.rd J (fun l hl=>by
    rcases List.mem_append.1 hl with hl | hl
    ·have h1:=Bq (f:=ao.wt) hl;have h2:ao.wt l = l.key.size+l.value.size:=rfl;have:=Bb Du.out;omega
    ·rw [List.mem_singleton] at hl;subst hl;omega)
   rw [cY] at HS;have fk:=I (cO.out.below bu J);have lz:=I (gz.out.KU bu sJ.out);have ER:=I (BV.out.keep fun g hg=>bu.block g (gx.out g hg));have iC:=I (d9.out.jt bu J);have kr:=I (fun h=>azG (xs:=xs++[y]) h);have MQ:=bu.size;clear fH xr cZ ia bu en bt sK mK gb gA dz RZ cV pk cO gz d9 sJ;refine HS.mono ?_;clear HS;generalize BG (xs++[y]) = R at *;obtain ⟨u,b⟩:=R;rintro e w5 ⟨A6,c6,G6,rfl,iD,cw,Jg⟩;have fI:=I (fk.out.ext cw);have nj:=I (lz.out.ext cw);have TI:=I (ER.out.ext cw);replace Jg:=I Jg;have jp:=I (iC.out.jt cw J);replace iD:=I (iD.mono (B':=w.heap.size) J);have N8:(k:Int)+1≤3:=J;exact ES
  ·exact uG
theorem aB0 (w:World) (c:Nat) (A:Option Addr) (n cap:Nat) (h:bJ w c A n cap) :
 Calls Tryz.prog 111 #[.pointer (some ⟨c,0,none⟩)] w fun e w'=>∃(xs:List ao) (A':Option Addr) (c':Nat) (G:List Nat),e = .returned (.slice A' xs.length c')∧am w' w.heap.size xs [.slice A' xs.length c'] G∧kL ao.wt xs≤306∧bJ w' c A n cap∧nN [c] w w'∧er w' w.heap.size 67 2 A' c' :=
 (iA w c A n cap h).mono fun _ _ ⟨xs,A',c',G,a,b,d,e⟩=>⟨xs,A',c',G,a,b,Bb d,e⟩
theorem am.p' {w:World} {B:Nat} {k:ByteArray} {op:Int} {vs:List ByteArray} {A:Option Addr} {c:Nat} {G:List Nat} (h:am w B vs [.slice A vs.length c] G) (hk:k.size≤maxLen) (ho:bp op):am w B (⟨k,op,vs⟩:aD) [.string k,.int .i64 op,.slice A vs.length c] G:=by
 refine am.up (B':=B) (fun x:aD=>(x.key,x.op,x.values)) ?_ (Nat.le_refl _);exact am.cons (c1:=[.string k]) (rdStr w k (rV hk)) (am.cons (c1:=[.int .i64 op]) (jL w op ho) h)
theorem Zx (w:World) (c:Nat) (A:Option Addr) (n cap:Nat) (h:bJ w c A n cap) :
 Calls Tryz.prog 149 #[.pointer (some ⟨c,0,none⟩)] w fun e w'=>∃(x:aD) (A':Option Addr) (c':Nat) (G:List Nat),e = .returned (.agg #[.string x.key,.int .i64 x.op,.slice A' x.values.length c'])∧am w' w.heap.size x [.string x.key,.int .i64 x.op,.slice A' x.values.length c'] G∧x.wt≤35∧bJ w' c A n cap∧nN [c] w w'∧er w' w.heap.size 9 1 A' c':=by
 have aq:=h.lt;have HC:=I h;clear h;go_enter Tryz.func149,Tryz.ntmps149;go_wp2_with fail
 refine (J0 _ c A n cap (HC.out.ext (ak (aj _) _))).mono ?_;rintro e w1 ⟨s1,rfl,cX,H1,hu1⟩;replace H1:=I H1;go_wp2_with fail
 refine (ik 4 J _ c A n cap H1.out).mono ?_;rintro e w2 ⟨r,rfl,hr,H2,b4⟩;replace H2:=I H2;have X0:=oG.new w [.string ⟨#[]⟩,.int .i64 0,.slice none 0 0] 70;have X2:=(X0.bI hu1 J).bI b4 J;have cg:=hu1.size;have cj:=b4.size;simp at cg;have bX:=H2.out.lt;have U2:=I (((nN.lq [c] (ak (aj w) _)).trans hu1).trans b4);have Y2:=oG.new w2 [.string s1,.int .i64 (1+r),.slice none 0 0] 70;replace X2:=X2.ext (ak (aj _) (.cells [.string s1,.int .i64 (1+r),.slice none 0 0].toArray 70));replace U2:=I (U2.out.alloc (.cells #[.string s1,.int .i64 (1+r),.slice none 0 0] 70));have cJ:=I (H2.out.ext (ak (aj _) (.cells #[.string s1,.int .i64 (1+r),.slice none 0 0] 70)));clear X0 hu1 b4 H1 H2 HC;have hI:bp (1+(r:Int)):=by unfold bp;omega
 by_cases h3:(1+(r:Int)) < 3
 ·go_wp2_with fail
  go_loopw [4,5] (fun v i wr=>∃(xs:List ByteArray) (ds:List Value) (A':Option Addr) (c' k:Nat),v = .slice A' xs.length c'∧i = .int .i64 k∧(k:Int)≤3∧Hid (xs.length = k∧(∀s∈xs,s.size≤8)∧wr.ownsRow (w2.heap.size+1) 9 1 (.slice A' xs.length c') xs.length ds∧jo wr xs ds []∧oG wr w.heap.size [.string ⟨#[]⟩,.int .i64 0,.slice none 0 0]∧oG wr w2.heap.size [.string s1,.int .i64 (1+r),.slice none 0 0]∧bJ wr c A n cap∧nN [c] w wr∧w2.heap.size+1≤wr.heap.size)) (fun _ i _=>3 - (intOf i).toNat)
  case atStart =>exact ⟨[],[],_,_,0,rfl,rfl,J,I ⟨rfl,(fun s hs=>by cases hs),D9 _ 9 1 _ S',⟨rfl,rfl⟩,X2.ext (ak (aj _) _),Y2.ext (ak (aj _) _),cJ.out.ext (ak (aj _) _),U2.out.alloc _,S'⟩⟩
  case round =>
   obtain ⟨xs,ds,A',c',k,rfl,rfl,hk,HX⟩:=hrel;obtain ⟨Rn,cR,bk,dq,hX,hY,hC,hU,hz⟩:=HX.out;have ir:=I bk;have mK:=I dq;have KV:=I hX;have Zy:=I hY;have pk:=I hC;have HU:=I hU;have Eo:=I cR;have tx:(xs.length:Int)≤3:=J;have HLK:=I Rn;clear bk dq hX hY hC hU cR Rn HX X2 Y2 U2 cJ;go_wp2_with fail
   refine (ik 3 J _ c A n cap pk.out).mono ?_;rintro e w4 ⟨q,rfl,hq,H4,Td⟩;have fk:=I H4;have NE:=I (rQ ir.out Td J);have BW:=I (KV.out.bI Td J);have vu:=I (Zy.out.bI Td J);have iC:=I (HU.out.trans Td);have Wy:=Td.size;have KW:=I (show jo w4 xs ds [] from mK.out.frame (fun b hb=>by cases hb) Wy);clear H4 Td ir KV Zy HU pk mK;by_cases hkq:(k:Int) < 1+q
   ·go_wp2_with fail
    refine (J3 _ c A n cap fk.out).mono ?_;rintro e w5 ⟨s2,rfl,cM,H5,hu5⟩;have fI:=I H5;have az:=rQ NE.out hu5 (show c < w2.heap.size+1 by omega);have vv:=I (BW.out.bI hu5 J);have RH:=I (vu.out.bI hu5 J);have jp:=I (iC.out.trans hu5);have Es:=hu5.size;have ZC:w2.heap.size+1≤w5.heap.size:=J;clear H5 hu5 NE BW vu iC fk
    go_wp2_with (
     at_builtin
     go_must (refine lC qw O _ _ O _ _ _ _ _ az O [.string s2] jI O eC J J ZC ?_)
     intro v6 w6 dl fi mu;go_must (obtain ⟨A6,c6,hv6⟩:=mY dl)
     go_must (subst hv6)
     go_must (have cw:Below (w2.heap.size+1) w5 w6:=lS az fi (Below.refl _ _) ZC))
    have cY:(xs++[s2]).length = xs.length+1:=S';have vw:jo w6 (xs++[s2]) (ds++[.string s2]) []:=(aY.push (B:=w2.heap.size+1) (B':=w2.heap.size+1) ⟨KW.out.frame (fun b hb=>by cases hb) J,List.nodup_nil,(fun b hb=>by cases hb),(fun b hb=>by cases hb)⟩ (am.flat (rdStr w6 s2 (rV (len8 cM)))) (Nat.le_refl _) (fun b hb=>by cases hb)).rd;refine ⟨⟨xs++[s2],ds++[.string s2],A6,c6,k+1,(by rw [cY]),N',J,I ⟨by have:=HLK.out;omega,fun s hs=>?_,(by rw [cY];exact dl),vw,vv.out.keep (cw.block _ J),RH.out.keep (cw.block _ J),fI.out.below cw J,jp.out.jt cw J,by have:=cw.size;omega⟩⟩,by simp only [intOf];omega⟩;rcases List.mem_append.1 hs with hs | hs
    ·exact Eo.out s hs
    ·rw [List.mem_singleton] at hs;subst hs;exact cM
   ·obtain ⟨A5,c5,G5,d8,fH⟩:=am.oJ (α:=ByteArray) NE.out ⟨KW.out,List.nodup_nil,(fun b hb=>by cases hb),(fun b hb=>by cases hb)⟩ (fun g _ hm=>by cases hm);simp only [Value.slice.injEq,true_and] at d8;obtain ⟨rfl,rfl⟩:=d8;have nj:=I fH;clear fH NE;go_wp2_with fail
    refine (WA xs A' c' G5 w4 nj.out.rd J).mono ?_;rintro e w5 ⟨A6,c6,G6,rfl,iD,cw,Jg⟩;have vw:=I (Jg.mono (B':=w2.heap.size+1) J);have Es:=cw.size;have fI:=I (fk.out.ext cw);have jp:=I (iC.out.jt cw J);have BY:=I iD;have ZD:=BW.out.ext cw;have DB:=vu.out.ext cw;obtain ⟨RM,fhX5_0,khX5_1,fhX5_1,khX5_2,fhX5_2⟩:=rT ZD;obtain ⟨RN,fhY5_0,khY5_1,fhY5_1,khY5_2,fhY5_2⟩:=rT DB;clear ZD DB cw iD BW vu fk iC
    have KX:=I (show (⟨s1,1+r,gH xs⟩:aD).wt≤35 from by
     have h1:=Wt xs;have h2:kL ByteArray.size xs≤3 * (8+1):=wX (n:=3) (b:=8) J Eo.out;show s1.size+kL ByteArray.size (gH xs)≤35
     omega)
    have ZE:(gH xs).length≤xs.length:=Wq xs;generalize gH xs = vs at *;go_wp2;refine bodyPost_ret (v:=.agg #[.string s1,.int .i64 (1+r),.slice A6 vs.length c6]) (by simp [results,Tryz.results149,go_sem, *]) rfl ?_;have fc:w.heap.size < w4.heap.size:=J;have bo:w2.heap.size < w4.heap.size:=J;exact ⟨⟨s1,1+r,vs⟩,A6,c6,G6,rfl,am.p' ((((((BY.out.setCell (p:=⟨w2.heap.size,2,none⟩) bo _).setCell (p:=⟨w.heap.size,0,none⟩) fc _).setCell (p:=⟨w.heap.size,1,none⟩) fc _).setCell (p:=⟨w.heap.size,2,none⟩) fc _)).mono J) (len8 cX) hI,KX.out,(((fI.out.bj J 2 _).bj aq 0 _).bj aq 1 _).bj aq 2 _,(((jp.out.new J 2 _).new (Nat.le_refl _) 0 _).new (Nat.le_refl _) 1 _).new (Nat.le_refl _) 2 _,((((vw.out.bj J 2 _).bj J 0 _).bj J 1 _).bj J 2 _).mono J⟩
 ·have fw:=X2;have eJ:=Y2;obtain ⟨RO,fHX2_0,kHX2_1,fHX2_1,kHX2_2,fHX2_2⟩:=rT fw;clear fw eJ X2 Y2;go_wp2;refine bodyPost_ret (v:=.agg #[.string s1,.int .i64 (1+r),.slice none 0 0]) (by simp [results,Tryz.results149,go_sem, *]) rfl ?_;exact ⟨⟨s1,1+r,[]⟩,none,0,[],rfl,am.p' (am.flat (Sl.nil _ none 0 (Nat.zero_le _))) (len8 cX) hI,(by show s1.size+0≤35;omega),(((cJ.out.bj aq 0 _).bj aq 1 _).bj aq 2 _),((U2.out.new (Nat.le_refl _) 0 _).new (Nat.le_refl _) 1 _).new (Nat.le_refl _) 2 _,.inl ⟨rfl,rfl⟩⟩
theorem aEe (w:World) (c:Nat) (A:Option Addr) (n cap:Nat) (h:bJ w c A n cap) :
 Calls Tryz.prog 149 #[.pointer (some ⟨c,0,none⟩)] w fun e w'=>∃(x:aD) (A':Option Addr) (c':Nat) (G:List Nat),e = .returned (.agg #[.string x.key,.int .i64 x.op,.slice A' x.values.length c'])∧am w' w.heap.size x [.string x.key,.int .i64 x.op,.slice A' x.values.length c'] G∧x.wt≤35∧bJ w' c A n cap∧nN [c] w w' :=
 (Zx w c A n cap h).mono fun _ _ ⟨xs,A',c',G,a,b,d,e,f,_⟩=>⟨xs,A',c',G,a,b,d,e,f⟩
theorem aAj {xs:List aD} (h:(kd xs).2 = true):od (kd xs).1 = true:=by
 unfold kd at h ⊢;split
 ·rename_i h2;exact h2.2.2
 ·rename_i h2;rw [if_neg h2] at h;cases h
theorem mS (w:World) (c:Nat) (A:Option Addr) (n cap:Nat) (h:bJ w c A n cap) :
 Calls Tryz.prog 114 #[.pointer (some ⟨c,0,none⟩)] w fun e w'=>∃(xs:List aD) (A':Option Addr) (c':Nat) (G:List Nat),e = .returned (.slice A' xs.length c')∧am w' w.heap.size xs [.slice A' xs.length c'] G∧od xs = true∧bJ w' c A n cap∧nN [c] w w'∧er w' w.heap.size 70 3 A' c':=by
 have aq:=h.lt;have HC:=I h;clear h;go_enter Tryz.func114,Tryz.ntmps114;go_wp2_with fail
 go_loopw [3,4] (fun v i wr=>∃(xs:List aD) (A':Option Addr) (c':Nat) (G:List Nat) (k:Nat),v = .slice A' xs.length c'∧i = .int .i64 k∧(k:Int)≤2∧am wr w.heap.size xs [.slice A' xs.length c'] G∧Hid (od xs = true)∧bJ wr c A n cap∧nN [c] w wr∧Hid (er wr w.heap.size 70 3 A' c')) (fun _ i _=>2 - (intOf i).toNat)
 case atStart =>obtain ⟨A',c',G,hv,hO⟩:=am.oJ (α:=aD) (D9 w 70 3 w.heap.size rfl) (aY.nil _ _) (fun g _ hm=>by cases hm);simp only [Value.slice.injEq,List.length_nil] at hv;obtain ⟨rfl,_,rfl⟩:=hv;exact ⟨[],_,_,G,0,rfl,rfl,J,hO,I rfl,HC.out.ext (ak (aj _) _),nN.lq _ (ak (aj _) _),I (er.oJ (D9 w 70 3 w.heap.size rfl) (Nat.le_refl _))⟩
 case round =>
  obtain ⟨xs,A',c',G,k,rfl,rfl,hk,hO,Du,hcur,hur,l8⟩:=hrel;have HO:=I hO;have sH:=I hcur;have sI:=I hur;have mo:=hur.size;have RG:(xs.length:Int)≤460:=by have h1:=gJ aD.wt xs;have:=JU Du.out;omega
  clear hO hcur hur;go_wp2_with fail
  refine (ik 3 J _ c A n cap sH.out).mono ?_;rintro e w1 ⟨r,rfl,hr,H1,hu1⟩;have gb:=I (HO.out.drawn hu1 aq);have gA:=I (sI.out.trans hu1);have qv:=I (l8.out.drawn hu1 aq);have cg:=hu1.size;have dz:=I H1;clear H1 hu1 HO sH sI l8;by_cases hkr:(k:Int) < r
  ·have sJ:=I gb.out.lt;have gx:=I qv.out.lt;have cU:=dz.out.lt;have KX:=I (show ∀l∈xs,l.wt≤460 from fun l hl=>by have h1:=Bq (f:=aD.wt) hl;have:=JU Du.out;omega);go_wp2_with fail
   refine (MN xs A' c' G w1 gb.out.rd J (fun l hl=>by have h1:=KX.out l hl;have h2:l.wt = l.key.size+kL ByteArray.size l.values:=rfl;have h3:=gJ ByteArray.size l.values;omega)).mono ?_;rintro e w2 ⟨v2,ds,F2,rfl,hrow2,hcs2,rR,ap⟩;obtain ⟨A2,c2,gF⟩:=mY hrow2;subst gF;have B6:=I (fun g hg=>(hrow2.lt g hg).2);have fZ:=I hcs2.lt;have sK:=I hrow2;have B7:=I hcs2;have KY:=I rR;have cJ:=I (dz.out.ext ap);have RZ:=I (gb.out.ext ap);have BS:=I (qv.out.ext ap);have cV:=I (gA.out.jt ap J);have cj:=ap.size;clear hrow2 hcs2 rR ap;go_wp2_with fail
   refine (aEe w2 c A n cap cJ.out).mono ?_;rintro e w3 ⟨y,Ay,cy,Gy,rfl,vh,xt,H3,bt⟩;have cO:=I H3;have j7:=rQ sK.out bt (show c < w1.heap.size by omega);have sL:=I (B7.out.keep (w':=w3) (fun b hb=>bt.block b (fZ.out b hb) (fun hm=>by have:=B7.out.base b hb;rw [List.mem_singleton] at hm;omega)) bt.size);have sk:=I vh;have gz:=I (RZ.out.drawn bt aq);have BV:=I (BS.out.drawn bt aq);have d9:=I (cV.out.trans bt);have cW:=bt.size;have mq:w1.heap.size≤w3.heap.size:=J;clear H3 vh cJ sK B7 RZ cV bt
   go_wp2_with (
    at_builtin
    go_must (refine uf pu O _ _ O _ _ _ _ _ j7 O [.string y.key,.int .i64 y.op,.slice Ay y.values.length cy] jI O eC J J mq ?_)
    intro v4 w4 cZ ia Wy ky;go_must (obtain ⟨A4,c4,hv4⟩:=mY cZ)
    go_must (subst hv4)
    go_must (have bu:Below w1.heap.size w3 w4:=lS j7 ia (Below.refl _ _) mq))
   have cY:(xs++[y]).length = xs.length+1:=S';obtain ⟨mI,hne4⟩:=aY.qF j7 sL.out KY.out sk.out J B6.out fZ.out ia ky;obtain ⟨A5,c5,G5,d8,fH⟩:=am.oJ (α:=aD) (xs:=xs++[y]) Mw mI hne4;rw [cY] at d8;simp only [Value.slice.injEq,true_and] at d8;obtain ⟨rfl,rfl⟩:=d8
   have HS:=WD (xs++[y]) A4 c4 G5 w4 fH.rd J (fun l hl=>by
    rcases List.mem_append.1 hl with hl | hl
    ·have:=KX.out l hl;omega
    ·rw [List.mem_singleton] at hl;subst hl;omega)
   rw [cY] at HS;have fk:=I (cO.out.below bu J);have lz:=I (gz.out.KU bu sJ.out);have ER:=I (BV.out.keep fun g hg=>bu.block g (gx.out g hg));have iC:=I (d9.out.jt bu J);have kr:=I (fun h=>aAj (xs:=xs++[y]) h);have MQ:=bu.size;clear fH mI hne4 cZ ia bu j7 gb gA dz cO gz d9 sJ sk sL KY B6 fZ KX ky;refine HS.mono ?_;clear HS;generalize kd (xs++[y]) = R at *;exact yU
  ·exact uG
theorem aDe (w:World) (c:Nat) (A:Option Addr) (n cap:Nat) (h:bJ w c A n cap) :
 Calls Tryz.prog 114 #[.pointer (some ⟨c,0,none⟩)] w fun e w'=>∃(xs:List aD) (A':Option Addr) (c':Nat) (G:List Nat),e = .returned (.slice A' xs.length c')∧am w' w.heap.size xs [.slice A' xs.length c'] G∧kL aD.wt xs≤460∧bJ w' c A n cap∧nN [c] w w'∧er w' w.heap.size 70 3 A' c' :=
 (mS w c A n cap h).mono fun _ _ ⟨xs,A',c',G,a,b,d,e⟩=>⟨xs,A',c',G,a,b,JU d,e⟩
end Go.Proofs.YtajbbmembionpaaGreat
