/- SortNeeds of the program. No condition. -/
import Derived.Test.YtdegaofigemegaaGreatRankP
import Derived.Test.YtdegaofigemegaaGreatCompK
namespace Go.Proofs.YtdegaofigemegaaGreat
open Go.ChangeShapes Go.WideShapes Go.ChangeAt Go.RowKit
set_option linter.unusedVariables false
set_option linter.unusedSimpArgs false
set_option maxHeartbeats 8000000
set_option maxRecDepth 100000
def sd (xs:List aL) (k:Nat):List aL:=(xs.take k).map lr++xs.drop k
theorem aGK (xs:List aL):sd xs 0 = xs:=by simp [sd]
theorem qR (xs:List aL):sd xs xs.length = xs.map lr:=by simp [sd]
theorem qS (xs:List aL) {k:Nat} (hk:k<=xs.length):(sd xs k).length = xs.length:=by simp [sd];omega
theorem qT {xs:List aL} {k:Nat} (hk:k < xs.length) {h:k < (sd xs k).length} : (sd xs k)[k] = xs[k]:=by
 have:(sd xs k)[k]? = xs[k]?:=by unfold sd;rw [List.getElem?_append_right (by rw [List.length_map,List.length_take];omega),List.length_map,List.length_take,Nat.min_eq_left (Nat.le_of_lt hk),Nat.sub_self,List.getElem?_drop,Nat.add_zero]
 rw [List.getElem?_eq_getElem h,List.getElem?_eq_getElem hk] at this;exact Option.some.inj this
theorem qV {xs:List aL} {k:Nat} (hk:k < xs.length):(sd xs k).set k (lr xs[k]) = sd xs (k+1):=by
 unfold sd;rw [List.set_append_right _ _ (by rw [List.length_map,List.length_take];omega)];rw [List.length_map,List.length_take,Nat.min_eq_left (Nat.le_of_lt hk),Nat.sub_self,List.take_succ_eq_append_getElem hk,List.map_append,List.append_assoc];congr 1;rw [List.drop_eq_getElem_cons hk];rfl
theorem aF1 {α:Type} (p:α->Bool):∀xs:List α,xs.any p = decide (0<=pK p xs)
 | []=>rfl
 | x :: xs=>by
   have h:=aF1 p xs;simp only [List.any_cons,pK,h];by_cases hp:p x = true
   ·simp [hp]
   ·simp only [Bool.not_eq_true] at hp;simp only [hp,Bool.false_or,if_neg (show ¬false = true by simp)];rw [Bool.eq_iff_iff,decide_eq_true_eq,decide_eq_true_eq];split <;> omega
def fk (x:aL):Bool:=decide (40 < x.values.length)
theorem qX (xs:List aL):xs.any fk = !vp xs:=by
 unfold vp;induction xs with
 | nil=>rfl
 | cons x xs ih=>rw [List.any_cons,ih,List.all_cons,Bool.not_and];congr 1;unfold fk;by_cases h:x.values.length<=40 <;> simp [h] <;> omega
theorem wN (x:aL) (cs:List Value) (F:List Nat) (w:World) (h:rd w x cs F) (hl:(x.values.length:Int)<=1048576) :
 Calls Tryz.prog 119 #[.agg cs.toArray] w λe w'=>e = .returned (.bool (fk x))/\Below w.heap.size w w':=by
 obtain ⟨jy,ji,Bo,ar,hF,b5,gH,kV⟩:=og h;subst ar;have hd:decide ((40:Int) < (x.values.length:Int)) = fk x:=by unfold fk;congr 1;apply propext;omega
 go_enter Tryz.func119,Tryz.ntmps119;go_wp2;go_ret
 exact ⟨by rw [<- hd];try rfl,bJ⟩
theorem q' (xs:List aL) (A:Option Addr) (c:Nat) (F:List Nat) (w:World) (h:Sl w xs A c F) (hl:(xs.length:Int)<=1048576) (hv:∀x∈xs,(x.values.length:Int)<=1048576) :
 Calls Tryz.prog 153 #[.slice A xs.length c,.func (.func 119) #[] #[]] w λe w'=>e = .returned (.int .i64 (pK fk xs))/\Below w.heap.size w w':=by
 have HV:=I hv;clear hv;go_enter Tryz.func153,Tryz.ntmps153;go_wp2;go_loopw [5,8] (λ_ i wr=>∃k:Nat,k<=xs.length/\i = .int .i64 k/\Hid (∀t∈xs.take k,fk t = false)/\Below w.heap.size w wr) (λ_ i _=>xs.length - (intOf i).toNat)
 case atStart=>exact ⟨0,Nat.zero_le _,rfl,by show ∀_,_;simp,aj _⟩
 case round =>
  obtain ⟨k,hk,rfl,Hn,aM⟩:=hrel;by_cases ap:k < xs.length
  ·obtain ⟨b,o,ck,Fk,rfl,o9,hbs,hr,bi,hc⟩:=(h.ext aM).get ap;have cc:=hr;obtain ⟨DT,DU,alQ,ar,hF3,adC,hop3,abp⟩:=og hr;subst ar;obtain ⟨q0,q1,q2⟩:=oa 3 hc;clear hc;have cS:=HV.out xs[k] (List.getElem_mem ..);have HK:=I (wN xs[k] _ _ wr cc cS);cases hp:fk xs[k] with
   | false =>
     have HP:=I hp;clear hp;go_wp2_with (go_at_call 119;refine HK.out.mono ?_;rw [HP.out];rintro e w2 ⟨rfl,am⟩)
     exact ⟨⟨k+1,J,N',yQ (p:=fk) ap Hn.out HP.out,ah aM am⟩,by simp [intOf];omega⟩
   | true =>
     have HP:=I hp;clear hp;have HI:=I (Fj (p:=fk) ap Hn.out HP.out);go_wp2_with (go_at_call 119;refine HK.out.mono ?_;rw [HP.out];rintro e w2 ⟨rfl,am⟩)
     go_ret
     exact ⟨by rw [HI.out];rfl,ah aM am⟩
  ·have bz:k = xs.length:=J;subst bz;have hn:=Hn.out;rw [List.take_length] at hn;have HI:=I (F5 (p:=fk) hn);clear hn;go_wp2;go_ret
   exact ⟨by rw [HI.out];rfl,aM⟩
theorem mD (xs:List aL) (A:Option Addr) (c:Nat) (F:List Nat) (w:World) (h:Sl w xs A c F) (hl:(xs.length:Int)<=1048576) (hv:∀x∈xs,(x.values.length:Int)<=1048576) :
 Calls Tryz.prog 118 #[.slice A xs.length c,.func (.func 119) #[] #[]] w λe w'=>e = .returned (.bool (!vp xs))/\Below w.heap.size w w':=by
 have Ch:=aF1 fk xs;have hix:=q' xs A c F w h hl hv;rw [qX] at Ch;generalize pK fk xs = z at Ch hix;rw [Ch];clear Ch hv;go_enter Tryz.func118,Tryz.ntmps118;go_wp2_with fail
 refine hix.mono ?_;rintro e w2 ⟨rfl,am⟩;go_wp2;go_ret
 exact ⟨rfl,am⟩
theorem l' (xs:List aL) (A:Option Addr) (c:Nat) (F:List Nat) (w:World) (h:Sl w xs A c F) (hl:(xs.length:Int)<=1048576) (cN:∀l∈xs,(l.wt:Int)<=1048576) :
 Calls Tryz.prog 74 #[.slice A xs.length c] w λe w'=>∃A' c' G,e = .returned (.tuple #[.slice A' (jA xs).1.length c',.bool (jA xs).2])/\ai w' w.heap.size (jA xs).1 [.slice A' (jA xs).1.length c'] G/\Below w.heap.size w w':=by
 have hv:∀x∈xs,(x.values.length:Int)<=1048576:=λx hx=>by
  exact Mz
 have Eo:=I cN;have HV:=I hv;clear cN hv;by_cases mw:xs.length<=40
 ·have HW:=I (mD xs A c F w h hl HV.out);cases hs:vp xs with
  | false =>
    have HR:=I (ayS hs);have HS:=I hs;clear hs;go_enter Tryz.func74,Tryz.ntmps74;go_wp2_with fail
    refine HW.out.mono ?_;rw [HS.out];rintro e w1 ⟨rfl,aR⟩;go_wp2_with fail
    refine (Of xs A c F w1 (h.ext aR) hl HV.out).mono ?_;rintro e w2 ⟨A2,c2,F2,rfl,bj,am⟩;go_wp2;go_ret2
    exact ⟨A2,c2,F2,by rw [HR.out];try rfl,by rw [HR.out];exact bj.mono aR.size,ah aR am⟩
  | true =>
    have HS:=I hs;clear hs;go_enter Tryz.func74,Tryz.ntmps74;go_wp2_with fail
    refine HW.out.mono ?_;rw [HS.out];rintro e w1 ⟨rfl,aR⟩;go_wp2_with fail
    refine (Of xs A c F w1 (h.ext aR) hl HV.out).mono ?_;rintro e w2 ⟨A2,c2,F2,rfl,bj,am⟩;have fp:=I (show Below w.heap.size w w2 from ah aR am);have RZ:=I (bj.mono aR.size);clear bj am aR HW;go_wp2_with fail
    go_loopw [19] (λj wr=>∃k:Nat,k<=xs.length/\j = .int .i64 (k:Int)/\ai wr w.heap.size (sd xs k) [.slice A2 xs.length c2] F2/\nN F2 w2 wr) (λj _=>xs.length - (intOf j).toNat)
    case atStart=>exact ⟨0,Nat.zero_le _,rfl,by rw [aGK];exact RZ.out,.refl _ _⟩
    case round =>
     obtain ⟨k,hk,rfl,hO,hu⟩:=hrel;by_cases ap:k < xs.length
     ·obtain ⟨b,o,ck,Fk,rfl,o9,bi,GO,LM,hE,cR⟩:=hO.EP (k:=k) (by rw [qS xs hk];exact ap);rw [qT ap] at LM;have hRe:=LM.rd;obtain ⟨jy,ji,Bo,ar,su,b5,gH,kV⟩:=og hRe;clear hRe;subst ar su;have tC:ai wr w.heap.size xs[k].values [.slice jy xs[k].values.length ji] Fk:=⟨kV,LM.nodup,λy hy=>LM.base y hy,λy hy=>LM.plain y hy⟩;have zl:=HV.out xs[k] (List.getElem_mem ..);have HUU:=I hu;have Yx:=I bi;have HCL:=I cR;have HKY:=I (And.intro b5 gH);clear hO LM hu bi cR b5 gH kV;have q0:=hE.at_ (q:=o+k * 3) (j:=0) (by show _ = o+k * 3+0;omega) rfl;have z0:=hE.plain.frozen (o+k * 3);have q1:=hE.at_ (q:=o+k * 3+1) (j:=1) (by show _ = o+k * 3+1;omega) rfl;have z1:=hE.plain.frozen (o+k * 3+1);have q2:=hE.at_ (q:=o+k * 3+2) (j:=2) (by show _ = o+k * 3+2;omega) rfl;have z2:=hE.plain.frozen (o+k * 3+2);go_wp2_with fail
      clear q0 z0 q1 z1 q2 z2;refine (sortStr xs[k].values _ _ _ _ _ tC zl).mono ?_;rintro e w3 ⟨rfl,ys,hys,zt,hUy⟩;have SQ:ys.length = xs[k].values.length:=(by have:=congrArg List.length hys;simpa using this);have HYS:=I hys;have Qh:=hE.step hUy (λy hy=>hy) GO;have px:=I hUy;clear hys tC hUy hE;have hE:=Qh;clear Qh;have Yy:=I (z8 ys _ _ _ w3 w.heap.size (by rw [SQ];exact zt) (by rw [SQ];exact zl));rw [SQ] at Yy;clear zt SQ;have q0:=hE.at_ (q:=o+k * 3) (j:=0) (by show _ = o+k * 3+0;omega) rfl;have z0:=hE.plain.frozen (o+k * 3);have q1:=hE.at_ (q:=o+k * 3+1) (j:=1) (by show _ = o+k * 3+1;omega) rfl;have z1:=hE.plain.frozen (o+k * 3+1);have q2:=hE.at_ (q:=o+k * 3+2) (j:=2) (by show _ = o+k * 3+2;omega) rfl;have z2:=hE.plain.frozen (o+k * 3+2);go_wp2_with fail
      clear q0 z0 q1 z1 q2 z2;refine Yy.out.mono ?_;rintro e w4 ⟨zs,rfl,gP,hOz,hUz⟩;have hz:=Ab HYS.out gP;have Qh:=hE.step hUz (λy hy=>hy) GO;have pF:=I hUz;clear hE gP hUz Yy;have hE:=Qh;clear Qh;subst hz;have q0:=hE.at_ (q:=o+k * 3) (j:=0) (by show _ = o+k * 3+0;omega) rfl;have z0:=hE.plain.frozen (o+k * 3);have q1:=hE.at_ (q:=o+k * 3+1) (j:=1) (by show _ = o+k * 3+1;omega) rfl;have z1:=hE.plain.frozen (o+k * 3+1);have q2:=hE.at_ (q:=o+k * 3+2) (j:=2) (by show _ = o+k * 3+2;omega) rfl;have z2:=hE.plain.frozen (o+k * 3+2);go_wp2_with fail
      clear q0 z0 q1 z1 q2 z2;have Yz:=hE.set (j:=2) (q:=o+k * 3+2) S' (by show _ = o+k * 3+2;omega) (.slice jy (gm xs[k].values).length ji);simp only [List.set_cons_zero,List.set_cons_succ] at Yz;have YA:=hOz.JA (p:=⟨b,o+k * 3+2,none⟩) GO (.slice jy (gm xs[k].values).length ji);have tD:ai (w4.setCell ⟨b,o+k * 3+2,none⟩ (.slice jy (gm xs[k].values).length ji)) w.heap.size (lr xs[k]) [.string xs[k].key,.int .i64 xs[k].op,.slice jy (gm xs[k].values).length ji] Fk:=by
       refine ai.up (B':=w.heap.size) (λx:aL=>(x.key,x.op,x.values)) ?_ (Nat.le_refl _);refine ai.cons (c1:=[.string xs[k].key]) (rdStr _ _ (rV HKY.out.1)) ?_;refine ai.cons (c1:=[.int .i64 xs[k].op]) (jL _ _ HKY.out.2) ?_;exact YA
      have br:=HCL.out _ _ _ tD Yz;rw [qV ap] at br;exact ⟨⟨k+1,J,N',br,HUU.out.trans (Yz.ce.mono λx hx=>by rcases List.mem_cons.1 hx with rfl | hx;exact o9;exact Yx.out x hx)⟩,by simp [intOf];omega⟩
     ·have bz:k = xs.length:=J;subst bz;rw [qR] at hO;have rB:Below w.heap.size w wr:=fp.out.trans (hu.below (λy hy=>RZ.out.base y hy) fp.out.size);have eN:∀x∈xs.map lr,(x.values.length:Int)<=1048576:=λx hx=>by
       obtain ⟨y,hy,rfl⟩:=List.mem_map.1 hx;exact (OS (by have:=Eo.out y hy;omega)).2.1
      have YD:=wJ (xs.map lr) A2 c2 F2 wr w.heap.size (by rw [List.length_map];exact hO) rB.size NM eN;rw [List.length_map] at YD;have HSF:=I YD;have en:=I eN;have kd:=I rB;clear YD eN rB hO hu RZ fp;go_wp2_with fail
      refine HSF.out.mono ?_;rintro e w2 ⟨rfl,ys,F3,hp,hs,bj,am⟩;have bE:ys.length = xs.length:=(by rw [hp.length_eq,List.length_map]);have hu:=jC Is qD hp hs;have bM:=wK ys A2 c2 F3 w2 w.heap.size (by rw [bE];exact bj) (Nat.le_trans kd.out.size am.size) (by rw [bE];exact hl) (λx hx=>en.out x (hp.mem_iff.1 hx));rw [bE] at bM hu;have HU:=I (show kept nJ ys xs.length = jN xs from hu);have HC:=I bM;have fp:=I (show Below w.heap.size w w2 from kd.out.trans am);clear hs hp bj am bE hu bM HSF en kd;go_wp2_with fail
      refine HC.out.mono ?_;rw [HU.out];rintro e w3 ⟨F4,rfl,hO3,az⟩;have oL:=I (show Below w.heap.size w w3 from fp.out.trans az);have gN:=I hO3;have tO:((jN xs).length:Int)<=1048576:=(by have:=aDu xs;omega);have HK:=I (WI (jN xs) _ _ _ _ w3 hO3.rd rfl tO (λl hl=>by obtain ⟨x,hx,rfl⟩:=Wd hl;exact OS (by have:=Eo.out x hx;omega)));clear az hO3 HC HU fp;cases hr:lN (jN xs) with
      | true =>
        have HR:=I (Wc mw HS.out hr);have ik:=I hr;clear hr;go_wp2_with fail
        refine HK.out.mono ?_;rw [ik.out];rintro e w4 ⟨rfl,bm⟩;have gY:=I bm;clear bm;go_wp2;go_ret2
        exact ⟨A2,c2,F4,by rw [HR.out];try rfl,by rw [HR.out];exact gN.out.ext gY.out,oL.out.trans (gY.out.mono oL.out.size)⟩
      | false =>
        have HR:=I (aAv hr);have ik:=I hr;clear hr;go_wp2_with fail
        refine HK.out.mono ?_;rw [ik.out];rintro e w4 ⟨rfl,bm⟩;have gY:=I (show Below w.heap.size w w4 from oL.out.trans (bm.mono oL.out.size));clear bm;go_wp2_with fail
        refine (Of xs A c F w4 (h.ext gY.out) hl HV.out).mono ?_;exact yj
 ·have HR:=I (ayR mw);go_enter Tryz.func74,Tryz.ntmps74;go_wp2_with fail
  refine (Of xs A c F w h hl HV.out).mono ?_;exact DO
theorem az9:(Tryz.prog.info? 120).map (λi=>(i.zero,i.size,i.bytes)) = some (some (.agg #[.string ⟨#[]⟩,.bool false,.string ⟨#[]⟩,.int .i64 0]),4,48):=by kernel_rfl
theorem ut:DL Tryz.prog 33 120 (.agg #[.string ⟨#[]⟩,.bool false,.string ⟨#[]⟩,.int .i64 0]) 4 48:=⟨Tryz.underlying33,az9,rfl,J⟩
theorem TC {w:World} {xs:List bH} (h:∀x∈xs,rd w x (ix x) []) {x:bH} (hx:x∈xs) (w':World):rd w' x (ix x) []:=by
 obtain ⟨h0,h1,h2,h3,h4⟩:=jv (h x hx);exact Ov w' x h2 h3 h4
theorem aIV (xs:List bH) (A:Option Addr) (c:Nat) (F:List Nat) (w:World) (h:Sl w xs A c F) (hl:(xs.length:Int)<=1048576) (cN:∀l∈xs,(l.key.size:Int)<=1048576/\(l.value.size:Int)<=1048576) :
 Calls Tryz.prog 98 #[.slice A xs.length c] w λe w'=>∃A' c' G,e = .returned (.tuple #[.slice A' (jK xs).1.length c',.bool (jK xs).2])/\ai w' w.heap.size (jK xs).1 [.slice A' (jK xs).1.length c'] G/\Below w.heap.size w w'/\((jK xs).2 = true->fe w' w.heap.size 120 4 A' c'):=by
 have Eo:=I cN;clear cN
 have t8:=I (show ∀x∈xs,rd w x (ix x) [] from λx hx=>by
  obtain ⟨k,hk,rfl⟩:=List.getElem_of_mem hx;obtain ⟨b,o,ck,Fk,_,_,_,hr,_,_⟩:=h.get hk;have h2:=jv hr;rw [h2.1,h2.2.1] at hr
  exact hr)
 go_enter Tryz.func98,Tryz.ntmps98
 go_wp2_with (
  at_builtin
  go_must (refine rW ut J' J' _ _ J' (w.alloc (.cells #[] 120)) w.heap.size _ 0 [] (D9 w 120 4 w.heap.size rfl) J' xs A c F (h.ext (ak (aj _) _)) J' J J S' ?_)
  intro v2 w2 ds G cH bi aw hg cF;go_must (obtain ⟨A2,c2,eO⟩:=mY aw)
  go_must (subst eO)
  go_must (have am:Below w.heap.size w w2:=lS (World.ownsRow_made (e:=120) (size:=4) w #[] 0 (Nat.le_refl _) (Nat.zero_le _) S') hg (ak (aj _) _) S'))
 all_goals
  simp only [Nat.zero_add,List.nil_append] at aw;try simp only [Nat.zero_add]
 ·have mw:¬xs.length<=40:=by omega
  have HR:=I (az8 mw);have tm:jo w2 xs ds G:=cH.frame (λb hb=>hg.block b (cH.lt b hb) (λe=>by have h1:=h.lt b (bi b hb);simp [Value.ownBlock] at e;omega)) hg.size;obtain ⟨A3,c3,G3,mK,hO3⟩:=ai.of_flat (λ{w x cs F} hh=>(jv hh).2.1) aw tm;exact DA
 ·have mw:xs.length<=40:=by omega
  have o4:=I (show jo w2 xs ds G from cH.frame (λb hb=>hg.block b (cH.lt b hb) (λe=>by have h1:=h.lt b (bi b hb);simp [Value.ownBlock] at e;omega)) hg.size);have di:=I aw;have fp:=I am;have cO:Sl w2 xs A c F:=h.ext am;clear aw cH hg cF bi am;go_wp2_with fail
  go_loopw [5,6] (λv i wr=>∃k N g cap:Nat,k<=xs.length/\N<=k/\i = .int .i64 (k:Int)/\v = .slice (some ⟨g,0,none⟩) N cap/\Hid ((dx vJ [] (xs.take k)).length = N)/\wr.ownsRow w2.heap.size 120 4 (.slice (some ⟨g,0,none⟩) N cap) N ((dx vJ [] (xs.take k)).flatMap ix)/\Below w2.heap.size w2 wr) (λ_ i _=>xs.length - (intOf i).toNat)
  case atStart=>exact ⟨0,0,w2.heap.size,0,J,Nat.le_refl _,rfl,rfl,I rfl,D9 w2 120 4 w2.heap.size rfl,ak (aj _) _⟩
  case round =>
   obtain ⟨k,N,g,cap,hk,hNk,rfl,rfl,cW,bB,aM⟩:=hrel;by_cases ap:k < xs.length
   ·obtain ⟨wo,hwo⟩:∃wo,wo = wr:=⟨_,rfl⟩;subst hwo;obtain ⟨b,o,ck,Fk,hA,hbG,hbs,aJe,_,hcells⟩:=Sl.get cO ap;subst hA;have va:xs[k]∈xs:=List.getElem_mem ..;have eh:dx vJ [] (xs.take (k+1)) = eA vJ xs[k] (dx vJ [] (xs.take k)):=(by rw [List.take_succ_eq_append_getElem ap,I6]);obtain ⟨y,hy⟩:∃y,xs[k] = y:=⟨_,rfl⟩;rw [hy] at aJe va eh;obtain ⟨ar,_⟩:=jv aJe;subst ar;have k0:wo.cell? ⟨b,o+k * 4,none⟩ = some (.string y.key):=r' aM (by have:=hcells 0 _ rfl;rwa [show o+(k * ax.size bH+0) = o+k * 4 by show o+(k * 4+0) = _;omega] at this) hbs;have k1:wo.cell? ⟨b,o+k * 4+1,none⟩ = some (.bool y.equal):=r' aM (by have:=hcells 1 _ rfl;rwa [show o+(k * ax.size bH+1) = o+k * 4+1 by show o+(k * 4+1) = _;omega] at this) hbs;have k2:wo.cell? ⟨b,o+k * 4+2,none⟩ = some (.string y.value):=r' aM (by have:=hcells 2 _ rfl;rwa [show o+(k * ax.size bH+2) = o+k * 4+2 by show o+(k * 4+2) = _;omega] at this) hbs;have k3:wo.cell? ⟨b,o+k * 4+3,none⟩ = some (.int .i64 y.effect):=r' aM (by have:=hcells 3 _ rfl;rwa [show o+(k * ax.size bH+3) = o+k * 4+3 by show o+(k * 4+3) = _;omega] at this) hbs;have Jf:=I eh;have Rk:=I va;clear hcells hy eh va;have vc:=I (show ∀z∈dx vJ [] (xs.take k),z∈xs from λz hz=>List.mem_of_mem_take (Wb hz));generalize dx vJ [] (xs.take k) = SS at *;obtain ⟨tE,fT,rN,hgc⟩:=IE bB;have R9:w2.heap.size<=wo.heap.size:=aM.size;have fq:b < wo.heap.size:=J;have nA:=I hgc;have jD:=I bB;have fv:=I aM;clear hgc bB aM;go_wp2_with fail
    go_loopw [7] (λj wr=>∃(s1 s2:List bH) (jj:Nat),Hid (SS = s1++s2)/\j = .int .i64 (jj:Int)/\Hid (s1.length = jj)/\Hid (∀z∈s1,vJ z y = true)/\Below wo.heap.size wo wr) (λj _=>N - (intOf j).toNat)
    case atStart=>exact ⟨[],SS,0,I rfl,rfl,I rfl,I (λz hz=>by cases hz),aj _⟩
    case round =>
     obtain ⟨s1,s2,jj,HE,rfl,HJ,HN,bC⟩:=hrel;have mc:∀bq oq u,wo.cell? ⟨bq,oq,none⟩ = some u->bq < wo.heap.size->wr.cell? ⟨bq,oq,none⟩ = some u:=λbq oq u h1 h2=>(bC.cell (p:=⟨bq,oq,none⟩) h2).trans h1;replace k0:=mc _ _ _ k0 fq;replace k1:=mc _ _ _ k1 fq;replace k2:=mc _ _ _ k2 fq;replace k3:=mc _ _ _ k3 fq;have MC:=I mc;have qa:wo.heap.size<=wr.heap.size:=bC.size;have pI:b < wr.heap.size:=J;have mL:g < wr.heap.size:=J;clear mc;cases s2 with
     | nil =>
       have fI:jj = N:=(by have e1:=HE.out;have e2:=cW.out;have e3:=HJ.out;rw [e1,List.append_nil] at e2;omega);have sE:N<=jj:=J;have sF:decide ((jj:Int) < (N:Int)) = false:=(by simp;omega);have sH:decide (jj < N) = false:=(by simp;omega);clear fI;have HI:=I (show eA vJ y (SS) = s1++y :: [] by rw [HE.out];exact QQ s1 HN.out);go_wp2_with fail
       refine aF wr U' U' (aj _) ?_
       repeat ((first | refine aG J' ?_ | refine aH _ J' cZ ?_);simp only [Act.put,pz])
       refine aN ?_;intro wm hn;replace hn:=hn.out;have kz:Below wo.heap.size wo wm:=ah bC hn;have jz:g < wm.heap.size:=(by have:=hn.size;omega);have kA:b < wm.heap.size:=(by have:=hn.size;omega);replace k0:=r' hn k0 eD;replace k1:=r' hn k1 eD;replace k2:=r' hn k2 eD;replace k3:=r' hn k3 eD;clear bC hn;obtain ⟨bC,pI,mL⟩:Below wo.heap.size wo wm/\b < wm.heap.size/\g < wm.heap.size:=⟨kz,kA,jz⟩;clear kz kA jz;go_wp2_with fail
       refine aF wm U' U' (aj _) ?_
       repeat ((first | refine aG J' ?_ | refine aH _ J' cZ ?_);simp only [Act.put,pz])
       refine aN ?_;intro wn hn;replace hn:=hn.out;have bs:Below wo.heap.size wo wn:=ah bC hn;have nZ:=I (show Below w2.heap.size w2 wn from ah fv.out bs);have RJ:=mG jD.out bs;obtain ⟨_,fy,apy,V4⟩:=IE RJ
       have eK:=I (show ∀q u,(s1.flatMap ix)[q]? = some u->wn.cell? ((⟨g,0,none⟩:Addr).add q) = some u from λq u hu=>by
        rw [Addr.add_lit,Nat.zero_add];refine V4 q u ?_
        rw [HE.out,List.flatMap_append,List.getElem?_append_left (List.getElem?_eq_some_iff.1 hu).1];exact hu)
       have Gn:=I (show ∀q u,((([]:List bH)).flatMap ix)[q]? = some u->wn.cell? ⟨g,jj * 4+q,none⟩ = some u from λq u hu=>by
        refine V4 (jj * 4+q) u ?_
        rw [HE.out,List.flatMap_append,List.getElem?_append_right (by rw [nj (row:=ix) (S:=4) (λ_=>rfl),HJ.out];omega),nj (row:=ix) (S:=4) (λ_=>rfl),HJ.out,Nat.add_sub_cancel_left];exact hu)
       have cA:jj+(([]:List bH)).length = N:=(by have e1:=congrArg List.length HE.out;have e2:=cW.out;have e3:=HJ.out;rw [List.length_append] at e1;omega);have rp:jj<=N:=J;have pv:jj<=cap:=J;replace k0:=r' hn k0 eD;replace k1:=r' hn k1 eD;replace k2:=r' hn k2 eD;replace k3:=r' hn k3 eD;have rR:b < wn.heap.size:=(by have:=hn.size;omega);have lH:=I cA;have kd:=I bs;clear RJ V4 cA bs;go_wp2_with fail
       refine zU wn 12 U' U' (aj _) ?_;refine YU (λa0 a' w'=>∃(g9 p9:Nat) (dj dl dm dp dq dr dt ed eQ eR:Value),a' = (Act.put (Act.put (Act.put (Act.put (Act.put (Act.put (Act.put (Act.put (Act.put (Act.put (Act.put (Act.put a0 (some 55) (dj)) (some 56) (dl)) (some 57) (dm)) (some 58) (dp)) (some 59) (dq)) (some 60) (dr)) (some 61) (dt)) (some 62) (ed)) (some 63) (eQ)) (some 64) (eR)) (some 65) (.slice (some ⟨g9,0,none⟩) (jj+1) p9)) (some 8) (.slice (some ⟨g9,0,none⟩) (jj+1) p9))/\Below wn.heap.size wn w'/\World.ownsRow w' wn.heap.size 120 4 (.slice (some ⟨g9,0,none⟩) (jj+1) p9) (jj+1) ((s1.flatMap ix)++[.string y.key,.bool y.equal,.string y.value,.int .i64 y.effect])) ?_ ?_;rotate_left
       ·exact MT
       intro a' w7 ga;obtain ⟨g9,p9,dj,dl,dm,dp,dq,dr,dt,ed,eQ,eR,rfl,bw,nK⟩:=ga;try simp only [Act.put,pz]
       have cC:∃A0:Addr,(if cap = jj then some (⟨g,0,none⟩:Addr) else some ⟨g,jj * 4,none⟩) = some A0/\Hid (A0.block = g/\∀q u,((([]:List bH)).flatMap ix)[q]? = some u->w7.cell? (A0.add q) = some u):=by
        by_cases hc:cap = jj
        ·exact yp
        ·exact ⟨⟨g,jj * 4,none⟩,by simp [hc],rfl,λq u hu=>by simp at hu⟩
       obtain ⟨A0,hA0,asg⟩:=cC;have bz:N - jj = (([]:List bH)).length:=(by have:=lH.out;omega);have pp:=I bz;clear bz
       go_wp2_with (
        at_builtin
        go_must (refine xW ut J' _ _ J' w7 wn.heap.size _ _ _ nK J' A0 0 (cap - jj) ((([]:List bH)).flatMap ix) J' J' asg.out.2 (pH AP _) J J ni ?_)
        intro v8 w8 Le da mQ;rw [show jj+1+0 = N+1 by omega] at Le;obtain ⟨g8,p8,hv8,aJs,aJt,aJu⟩:=wW Le J
        subst hv8)
       exact Nw
     | cons z s2 =>
       have fI:jj < N:=(by have e1:=congrArg List.length HE.out;have e2:=cW.out;have e3:=HJ.out;rw [List.length_append,List.length_cons] at e1;omega);have z0:wr.cell? ⟨g,jj * 4,none⟩ = some (.string z.key):=MC.out _ _ _ (nA.out (jj * 4+0) _ (by rw [HE.out];exact xv (row:=ix) (S:=4) (λ_=>rfl) _ jj z yW 0 _ rfl)) fT;have z1:wr.cell? ⟨g,jj * 4+1,none⟩ = some (.bool z.equal):=MC.out _ _ _ (nA.out (jj * 4+1) _ (by rw [HE.out];exact xv (row:=ix) (S:=4) (λ_=>rfl) _ jj z yW 1 _ rfl)) fT;have z2:wr.cell? ⟨g,jj * 4+2,none⟩ = some (.string z.value):=MC.out _ _ _ (nA.out (jj * 4+2) _ (by rw [HE.out];exact xv (row:=ix) (S:=4) (λ_=>rfl) _ jj z yW 2 _ rfl)) fT;have z3:wr.cell? ⟨g,jj * 4+3,none⟩ = some (.int .i64 z.effect):=MC.out _ _ _ (nA.out (jj * 4+3) _ (by rw [HE.out];exact xv (row:=ix) (S:=4) (λ_=>rfl) _ jj z yW 3 _ rfl)) fT;have sF:decide ((jj:Int) < (N:Int)) = true:=(by simp;omega);have Rj:=I (show z∈xs from vc.out z C8);cases hL:vJ z y with
       | true =>
         have HL:=I hL;clear hL;go_wp2_with fail
         refine aF wr U' U' (aj _) ?_
         repeat ((first | refine aG J' ?_ | refine aH _ J' Lp ?_);simp only [Act.put,pz])
         exact x7
       | false =>
         have HL:=I hL;clear hL;go_wp2_with fail
         refine aF wr U' U' (aj _) ?_
         repeat ((first | refine aG J' ?_ | refine aH _ J' Lp ?_);simp only [Act.put,pz])
         refine aN ?_;intro wm hn;replace hn:=hn.out;have kz:Below wo.heap.size wo wm:=ah bC hn;have jz:g < wm.heap.size:=(by have:=hn.size;omega);have kA:b < wm.heap.size:=(by have:=hn.size;omega);replace k0:=r' hn k0 eD;replace k1:=r' hn k1 eD;replace k2:=r' hn k2 eD;replace k3:=r' hn k3 eD;replace z0:=r' hn z0 uB;replace z1:=r' hn z1 uB;replace z2:=r' hn z2 uB;replace z3:=r' hn z3 uB;clear bC hn;obtain ⟨bC,pI,mL⟩:Below wo.heap.size wo wm/\b < wm.heap.size/\g < wm.heap.size:=⟨kz,kA,jz⟩;cases hE:oP z y with
         | true =>
           have HQ:=I hE;have HI:=I (show eA vJ y (SS) = SS by rw [HE.out];exact QT s1 s2 HN.out HL.out (by rw [(WC z y).1 hE];exact EO.re y) );clear hE kz kA jz;go_wp2_with fail
           refine aF wm U' U' (aj _) ?_
           repeat ((first | refine aG J' ?_ | refine aH _ J' Lw ?_);simp only [Act.put,pz])
           exact Nz
         | false =>
           have HQ:=I hE
           have HG:=I (show vJ y z = true by
            cases hh:vJ y z with
            | true=>rfl
            | false=>have:=EO.xR z y HL.out hh;rw [(WC z y).2 this] at hE;cases hE)
           have HI:=I (show eA vJ y (SS) = s1++y :: (z :: s2) by rw [HE.out];exact QR s1 s2 HN.out HL.out HG.out);clear hE kz kA jz;go_wp2_with fail
           refine aF wm U' U' (aj _) ?_
           repeat ((first | refine aG J' ?_ | refine aH _ J' Lw ?_);simp only [Act.put,pz])
           refine aN ?_;intro wn hn;replace hn:=hn.out;simp only [HQ.out];have bs:Below wo.heap.size wo wn:=ah bC hn;have nZ:=I (show Below w2.heap.size w2 wn from ah fv.out bs);have RJ:=mG jD.out bs;obtain ⟨_,fy,apy,V4⟩:=IE RJ
           have eK:=I (show ∀q u,(s1.flatMap ix)[q]? = some u->wn.cell? ((⟨g,0,none⟩:Addr).add q) = some u from λq u hu=>by
            rw [Addr.add_lit,Nat.zero_add];refine V4 q u ?_
            rw [HE.out,List.flatMap_append,List.getElem?_append_left (List.getElem?_eq_some_iff.1 hu).1];exact hu)
           have Gn:=I (show ∀q u,((z :: s2).flatMap ix)[q]? = some u->wn.cell? ⟨g,jj * 4+q,none⟩ = some u from λq u hu=>by
            refine V4 (jj * 4+q) u ?_
            rw [HE.out,List.flatMap_append,List.getElem?_append_right (by rw [nj (row:=ix) (S:=4) (λ_=>rfl),HJ.out];omega),nj (row:=ix) (S:=4) (λ_=>rfl),HJ.out,Nat.add_sub_cancel_left];exact hu)
           have cA:jj+(z :: s2).length = N:=(by have e1:=congrArg List.length HE.out;have e2:=cW.out;have e3:=HJ.out;rw [List.length_append] at e1;omega);have rp:jj<=N:=J;have pv:jj<=cap:=J;have Sa:¬cap = jj:=J;replace k0:=r' hn k0 eD;replace k1:=r' hn k1 eD;replace k2:=r' hn k2 eD;replace k3:=r' hn k3 eD;have rR:b < wn.heap.size:=(by have:=hn.size;omega);have lH:=I cA;have kd:=I bs;clear RJ V4 cA bs;go_wp2_with fail
           refine zU wn 12 U' U' (aj _) ?_;refine YU (λa0 a' w'=>∃(g9 p9:Nat) (dj dl dm dp dq dr dt ed eQ eR:Value),a' = (Act.put (Act.put (Act.put (Act.put (Act.put (Act.put (Act.put (Act.put (Act.put (Act.put (Act.put (Act.put a0 (some 55) (dj)) (some 56) (dl)) (some 57) (dm)) (some 58) (dp)) (some 59) (dq)) (some 60) (dr)) (some 61) (dt)) (some 62) (ed)) (some 63) (eQ)) (some 64) (eR)) (some 65) (.slice (some ⟨g9,0,none⟩) (jj+1) p9)) (some 8) (.slice (some ⟨g9,0,none⟩) (jj+1) p9))/\Below wn.heap.size wn w'/\World.ownsRow w' wn.heap.size 120 4 (.slice (some ⟨g9,0,none⟩) (jj+1) p9) (jj+1) ((s1.flatMap ix)++[.string y.key,.bool y.equal,.string y.value,.int .i64 y.effect])) ?_ ?_;rotate_left
           ·exact MT
           intro a' w7 ga;obtain ⟨g9,p9,dj,dl,dm,dp,dq,dr,dt,ed,eQ,eR,rfl,bw,nK⟩:=ga;try simp only [Act.put,pz]
           have bz:N - jj = (z :: s2).length:=(by have:=lH.out;omega);have pp:=I bz;clear bz
           go_wp2_with (
            at_builtin
            go_must (refine xW ut J' _ _ J' w7 wn.heap.size _ _ _ nK J' ⟨g,jj * 4,none⟩ (N - jj) (cap - jj) ((z :: s2).flatMap ix) J' (by rw [nj (row:=ix) (S:=4) (λ_=>rfl),pp.out]) (λq u hu=>by rw [Addr.add_lit];exact (bw.cell (p:=⟨g,jj * 4+q,none⟩) fy).trans (Gn.out q u hu)) (pH AP _) J J ni ?_)
            intro v8 w8 Le da mQ;rw [show jj+1+(N - jj) = N+1 by omega] at Le;obtain ⟨g8,p8,hv8,aJs,aJt,aJu⟩:=wW Le J
            subst hv8)
           exact Nw
   ·have bz:k = xs.length:=J;subst bz;rw [List.take_length] at bB cW;have xl:=I (show Below w.heap.size w wr from fp.out.trans (aM.mono fp.out.size));have Ia:=I aM;have b8:∀z∈dx vJ [] (xs),z∈xs:=λz hz=>Wb hz;rw [<- cW.out] at bB;obtain ⟨A4,c4,G4,hv4,hO4⟩:=VG (β:=bH) (row:=ix) rfl (dx vJ [] (xs)) bB (λx hx=>TC t8.out (b8 x hx) wr);rw [cW.out] at hv4;simp only [Value.slice.injEq,true_and] at hv4;obtain ⟨zn,ee⟩:=hv4;subst zn ee;have ng:=I (hO4.mono fp.out.size);have n9:=I (fe.oJ bB fp.out.size);have en:=I (RI (dx vJ [] (xs)) _ N cap G4 wr hO4.rd cW.out.symm (by rw [cW.out];omega) (λl hl=>Eo.out l (b8 l hl)));clear aM bB hO4 b8;cases hr:Ya (dx vJ [] (xs)) with
    | true =>have HR:=I (Wa mw hr);exact Ey
    | false =>have HR:=I (aBF hr);have ik:=I hr;clear hr;obtain ⟨A3,c3,G3,mK,hO3⟩:=ai.of_flat (λ{w x cs F} hh=>(jv hh).2.1) di.out o4.out;exact Dn
theorem axf (xs:List bH) (A:Option Addr) (c:Nat) (F:List Nat) (w:World) (h:Sl w xs A c F) (hl:(xs.length:Int)<=1048576) (cN:∀l∈xs,(l.key.size:Int)<=1048576/\(l.value.size:Int)<=1048576) :
 Calls Tryz.prog 98 #[.slice A xs.length c] w λe w'=>∃A' c' G,e = .returned (.tuple #[.slice A' (jK xs).1.length c',.bool (jK xs).2])/\ai w' w.heap.size (jK xs).1 [.slice A' (jK xs).1.length c'] G/\Below w.heap.size w w' :=
 (aIV xs A c F w h hl cN).mono λ_ _ ⟨A',c',G,a,b,d,_⟩=>⟨A',c',G,a,b,d⟩
theorem aDt:(Tryz.prog.info? 113).map (λi=>(i.zero,i.size,i.bytes)) = some (some (.agg #[.string ⟨#[]⟩,.string ⟨#[]⟩]),2,32):=by kernel_rfl
theorem ux:DL Tryz.prog 31 113 (.agg #[.string ⟨#[]⟩,.string ⟨#[]⟩]) 2 32:=⟨Tryz.underlying31,aDt,rfl,J⟩
theorem aBD {w:World} {xs:List ao} (h:∀x∈xs,rd w x (cE x) []) {x:ao} (hx:x∈xs) (w':World):rd w' x (cE x) []:=by
 obtain ⟨h0,h1,h2,h3⟩:=vO (h x hx);exact Ul w' x h2 h3
theorem Fi {y z:ao} (h:kS eE y z = false):(Op.bytesLess z.key.toList y.key.toList || z.key.toList == y.key.toList) = true/\(Op.bytesLess y.key.toList z.key.toList) = false:=by
 have h1:¬eE y z < 0:=by simpa [kS] using h
 have h2:eE z y = - eE y z:=Uw.fZ _ _;have hh:Op.bytesLess y.key.toList z.key.toList = false:=by
  cases hb:Op.bytesLess y.key.toList z.key.toList with
  | false=>rfl
  | true =>rw [<- Wx,ByteArray.toList_eq,ByteArray.toList_eq] at hb;exact absurd hb h1
 refine ⟨?_,hh⟩;by_cases h3:eE y z = 0
 ·have:=(J5 _ _).1 h3;rw [ByteArray.toList_eq,ByteArray.toList_eq,this];simp
 ·have h4:eE z y < 0:=by omega
  have:=(Wx _ _).1 h4;rw [ByteArray.toList_eq,ByteArray.toList_eq,this];rfl
theorem Fo {y z:ao} (h:kS eE y z = true):(Op.bytesLess z.key.toList y.key.toList || z.key.toList == y.key.toList) = false:=by
 have h1:eE y z < 0:=by simpa [kS] using h
 have h2:eE z y = - eE y z:=Uw.fZ _ _;rw [Bool.or_eq_false_iff];constructor
 ·cases hb:Op.bytesLess z.key.toList y.key.toList with
  | false=>rfl
  | true =>rw [<- Wx,ByteArray.toList_eq,ByteArray.toList_eq] at hb;have:eE z y < 0:=hb;omega
 ·cases hb:(z.key.toList == y.key.toList) with
  | false=>rfl
  | true =>rw [beq_iff_eq,ByteArray.toList_eq,ByteArray.toList_eq] at hb;have:eE z y = 0:=(J5 _ _).2 hb;omega
theorem aBE {xs:List ao} (h:sD xs = true):xs.length<=6:=by
 unfold sD oS at h;exact yz
theorem aJP (xs:List ao) (A:Option Addr) (c:Nat) (F:List Nat) (w:World) (h:Sl w xs A c F) (hl:(xs.length:Int)<=1048576) (cN:∀l∈xs,(l.key.size:Int)<=1048576/\(l.value.size:Int)<=1048576) :
 Calls Tryz.prog 92 #[.slice A xs.length c] w λe w'=>∃A' c' G,e = .returned (.tuple #[.slice A' (BG xs).1.length c',.bool (BG xs).2])/\ai w' w.heap.size (BG xs).1 [.slice A' (BG xs).1.length c'] G/\Below w.heap.size w w'/\((BG xs).2 = true->fe w' w.heap.size 113 2 A' c'):=by
 have Eo:=I cN;clear cN
 have t8:=I (show ∀x∈xs,rd w x (cE x) [] from λx hx=>by
  obtain ⟨k,hk,rfl⟩:=List.getElem_of_mem hx;obtain ⟨b,o,ck,Fk,_,_,_,hr,_,_⟩:=h.get hk;have h2:=vO hr;rw [h2.1,h2.2.1] at hr
  exact hr)
 go_enter Tryz.func92,Tryz.ntmps92
 go_wp2_with (
  at_builtin
  go_must (refine rW ux J' J' _ _ J' (w.alloc (.cells #[] 113)) w.heap.size _ 0 [] (D9 w 113 2 w.heap.size rfl) J' xs A c F (h.ext (ak (aj _) _)) J' J J S' ?_)
  intro v2 w2 ds G cH bi aw hg cF;go_must (obtain ⟨A2,c2,eO⟩:=mY aw)
  go_must (subst eO)
  go_must (have am:Below w.heap.size w w2:=lS (World.ownsRow_made (e:=113) (size:=2) w #[] 0 (Nat.le_refl _) (Nat.zero_le _) S') hg (ak (aj _) _) S'))
 all_goals
  simp only [Nat.zero_add,List.nil_append] at aw;try simp only [Nat.zero_add]
 ·have mw:¬xs.length<=6:=by omega
  have HR:=I (UI (by cases hh:sD (bd (kS eE) [] xs) with
  | false=>rfl
  | true=>have:=aBE hh;rw [za] at this;omega))
  have tm:jo w2 xs ds G:=cH.frame (λb hb=>hg.block b (cH.lt b hb) (λe=>by have h1:=h.lt b (bi b hb);simp [Value.ownBlock] at e;omega)) hg.size;obtain ⟨A3,c3,G3,mK,hO3⟩:=ai.of_flat (λ{w x cs F} hh=>(vO hh).2.1) aw tm;exact DA
 ·have mw:xs.length<=6:=by omega
  have o4:=I (show jo w2 xs ds G from cH.frame (λb hb=>hg.block b (cH.lt b hb) (λe=>by have h1:=h.lt b (bi b hb);simp [Value.ownBlock] at e;omega)) hg.size);have di:=I aw;have fp:=I am;have cO:Sl w2 xs A c F:=h.ext am;clear aw cH hg cF bi am;go_wp2_with fail
  go_loopw [5,6] (λv i wr=>∃k N g cap:Nat,k<=xs.length/\N<=k/\i = .int .i64 (k:Int)/\v = .slice (some ⟨g,0,none⟩) N cap/\Hid ((bd (kS eE) [] (xs.take k)).length = N)/\wr.ownsRow w2.heap.size 113 2 (.slice (some ⟨g,0,none⟩) N cap) N ((bd (kS eE) [] (xs.take k)).flatMap cE)/\Below w2.heap.size w2 wr) (λ_ i _=>xs.length - (intOf i).toNat)
  case atStart=>exact ⟨0,0,w2.heap.size,0,J,Nat.le_refl _,rfl,rfl,I rfl,D9 w2 113 2 w2.heap.size rfl,ak (aj _) _⟩
  case round =>
   obtain ⟨k,N,g,cap,hk,hNk,rfl,rfl,cW,bB,aM⟩:=hrel;by_cases ap:k < xs.length
   ·obtain ⟨wo,hwo⟩:∃wo,wo = wr:=⟨_,rfl⟩;subst hwo;obtain ⟨b,o,ck,Fk,hA,hbG,hbs,aJe,_,hcells⟩:=Sl.get cO ap;subst hA;have va:xs[k]∈xs:=List.getElem_mem ..;have eh:bd (kS eE) [] (xs.take (k+1)) = OM (kS eE) xs[k] (bd (kS eE) [] (xs.take k)):=(by rw [List.take_succ_eq_append_getElem ap,V3]);obtain ⟨y,hy⟩:∃y,xs[k] = y:=⟨_,rfl⟩;rw [hy] at aJe va eh;obtain ⟨ar,_⟩:=vO aJe;subst ar;have k0:wo.cell? ⟨b,o+k * 2,none⟩ = some (.string y.key):=r' aM (by have:=hcells 0 _ rfl;rwa [show o+(k * ax.size ao+0) = o+k * 2 by show o+(k * 2+0) = _;omega] at this) hbs;have k1:wo.cell? ⟨b,o+k * 2+1,none⟩ = some (.string y.value):=r' aM (by have:=hcells 1 _ rfl;rwa [show o+(k * ax.size ao+1) = o+k * 2+1 by show o+(k * 2+1) = _;omega] at this) hbs;have Jf:=I eh;have Rk:=I va;clear hcells hy eh va;have vc:=I (show ∀z∈bd (kS eE) [] (xs.take k),z∈xs from λz hz=>List.mem_of_mem_take (RS hz));generalize bd (kS eE) [] (xs.take k) = SS at *;obtain ⟨tE,fT,rN,hgc⟩:=IE bB;have R9:w2.heap.size<=wo.heap.size:=aM.size;have fq:b < wo.heap.size:=J;have nA:=I hgc;have jD:=I bB;have fv:=I aM;clear hgc bB aM;go_wp2_with fail
    go_loopw [7] (λj wr=>∃(s1 s2:List ao) (jj:Nat),Hid (SS = s1++s2)/\j = .int .i64 (jj:Int)/\Hid (s1.length = jj)/\Hid (∀z∈s1,kS eE y z = false)/\Below wo.heap.size wo wr) (λj _=>N - (intOf j).toNat)
    case atStart=>exact ⟨[],SS,0,I rfl,rfl,I rfl,I (λz hz=>by cases hz),aj _⟩
    case round =>
     obtain ⟨s1,s2,jj,HE,rfl,HJ,HN,bC⟩:=hrel;have mc:∀bq oq u,wo.cell? ⟨bq,oq,none⟩ = some u->bq < wo.heap.size->wr.cell? ⟨bq,oq,none⟩ = some u:=λbq oq u h1 h2=>(bC.cell (p:=⟨bq,oq,none⟩) h2).trans h1;replace k0:=mc _ _ _ k0 fq;replace k1:=mc _ _ _ k1 fq;have MC:=I mc;have qa:wo.heap.size<=wr.heap.size:=bC.size;have pI:b < wr.heap.size:=J;have mL:g < wr.heap.size:=J;clear mc;cases s2 with
     | nil =>
       have fI:jj = N:=(by have e1:=HE.out;have e2:=cW.out;have e3:=HJ.out;rw [e1,List.append_nil] at e2;omega);have sE:N<=jj:=J;have sF:decide ((jj:Int) < (N:Int)) = false:=(by simp;omega);have sH:decide (jj < N) = false:=(by simp;omega);clear fI;have HI:=I (show OM (kS eE) y (SS) = s1++y :: [] by rw [HE.out];exact PY s1 [] HN.out (.inl rfl));go_wp2_with fail
       refine aF wr U' U' (aj _) ?_
       repeat ((first | refine aG J' ?_ | refine aH _ J' cZ ?_);simp only [Act.put,pz])
       refine aN ?_;intro wn hn;replace hn:=hn.out;have bs:Below wo.heap.size wo wn:=ah bC hn;have nZ:=I (show Below w2.heap.size w2 wn from ah fv.out bs);have RJ:=mG jD.out bs;obtain ⟨_,fy,apy,V4⟩:=IE RJ
       have eK:=I (show ∀q u,(s1.flatMap cE)[q]? = some u->wn.cell? ((⟨g,0,none⟩:Addr).add q) = some u from λq u hu=>by
        rw [Addr.add_lit,Nat.zero_add];refine V4 q u ?_
        rw [HE.out,List.flatMap_append,List.getElem?_append_left (List.getElem?_eq_some_iff.1 hu).1];exact hu)
       have Gn:=I (show ∀q u,((([]:List ao)).flatMap cE)[q]? = some u->wn.cell? ⟨g,jj * 2+q,none⟩ = some u from λq u hu=>by
        refine V4 (jj * 2+q) u ?_
        rw [HE.out,List.flatMap_append,List.getElem?_append_right (by rw [nj (row:=cE) (S:=2) (λ_=>rfl),HJ.out];omega),nj (row:=cE) (S:=2) (λ_=>rfl),HJ.out,Nat.add_sub_cancel_left];exact hu)
       have cA:jj+(([]:List ao)).length = N:=(by have e1:=congrArg List.length HE.out;have e2:=cW.out;have e3:=HJ.out;rw [List.length_append] at e1;omega);have rp:jj<=N:=J;have pv:jj<=cap:=J;replace k0:=r' hn k0 eD;replace k1:=r' hn k1 eD;have rR:b < wn.heap.size:=(by have:=hn.size;omega);have lH:=I cA;have kd:=I bs;clear RJ V4 cA bs;go_wp2_with fail
       refine zU wn 12 U' U' (aj _) ?_;refine YU (λa0 a' w'=>∃(g9 p9:Nat) (dj dl dm dp dq dr dt ed eQ eR:Value),a' = (Act.put (Act.put (Act.put (Act.put (Act.put (Act.put (Act.put (Act.put (Act.put (Act.put (Act.put (Act.put a0 (some 42) (dj)) (some 43) (dl)) (some 44) (dm)) (some 45) (dp)) (some 46) (dq)) (some 47) (dr)) (some 48) (dt)) (some 49) (ed)) (some 50) (eQ)) (some 51) (eR)) (some 52) (.slice (some ⟨g9,0,none⟩) (jj+1) p9)) (some 8) (.slice (some ⟨g9,0,none⟩) (jj+1) p9))/\Below wn.heap.size wn w'/\World.ownsRow w' wn.heap.size 113 2 (.slice (some ⟨g9,0,none⟩) (jj+1) p9) (jj+1) ((s1.flatMap cE)++[.string y.key,.string y.value])) ?_ ?_;rotate_left
       ·exact MX
       intro a' w7 ga;obtain ⟨g9,p9,dj,dl,dm,dp,dq,dr,dt,ed,eQ,eR,rfl,bw,nK⟩:=ga;try simp only [Act.put,pz]
       have cC:∃A0:Addr,(if cap = jj then some (⟨g,0,none⟩:Addr) else some ⟨g,jj * 2,none⟩) = some A0/\Hid (A0.block = g/\∀q u,((([]:List ao)).flatMap cE)[q]? = some u->w7.cell? (A0.add q) = some u):=by
        by_cases hc:cap = jj
        ·exact yp
        ·exact ⟨⟨g,jj * 2,none⟩,by simp [hc],rfl,λq u hu=>by simp at hu⟩
       obtain ⟨A0,hA0,asg⟩:=cC;have bz:N - jj = (([]:List ao)).length:=(by have:=lH.out;omega);have pp:=I bz;clear bz
       go_wp2_with (
        at_builtin
        go_must (refine xW ux J' _ _ J' w7 wn.heap.size _ _ _ nK J' A0 0 (cap - jj) ((([]:List ao)).flatMap cE) J' J' asg.out.2 (pH AS _) J J ni ?_)
        intro v8 w8 Le da mQ;rw [show jj+1+0 = N+1 by omega] at Le;obtain ⟨g8,p8,hv8,aJs,aJt,aJu⟩:=wW Le J
        subst hv8)
       exact Nx
     | cons z s2 =>
       have fI:jj < N:=(by have e1:=congrArg List.length HE.out;have e2:=cW.out;have e3:=HJ.out;rw [List.length_append,List.length_cons] at e1;omega);have z0:wr.cell? ⟨g,jj * 2,none⟩ = some (.string z.key):=MC.out _ _ _ (nA.out (jj * 2+0) _ (by rw [HE.out];exact xv (row:=cE) (S:=2) (λ_=>rfl) _ jj z yW 0 _ rfl)) fT;have z1:wr.cell? ⟨g,jj * 2+1,none⟩ = some (.string z.value):=MC.out _ _ _ (nA.out (jj * 2+1) _ (by rw [HE.out];exact xv (row:=cE) (S:=2) (λ_=>rfl) _ jj z yW 1 _ rfl)) fT;have sF:decide ((jj:Int) < (N:Int)) = true:=(by simp;omega);have Rj:=I (show z∈xs from vc.out z C8);cases hL:kS eE y z with
       | false =>have HL:=I hL;have eW:=Fi hL;obtain ⟨Fs,hle2⟩:=eW;clear hL;exact Nd
       | true =>
         have HL:=I hL;have eW:=Fo hL;have HI:=I (show OM (kS eE) y (SS) = s1++y :: (z :: s2) by rw [HE.out];exact PY s1 (z :: s2) HN.out (.inr ⟨_,_,rfl,HL.out⟩));clear hL;go_wp2_with fail
         refine aF wr U' U' (aj _) ?_
         repeat ((first | refine aG J' ?_ | refine aH _ J' cZ ?_);simp only [Act.put,pz])
         refine aN ?_;intro wn hn;replace hn:=hn.out;have bs:Below wo.heap.size wo wn:=ah bC hn;have nZ:=I (show Below w2.heap.size w2 wn from ah fv.out bs);have RJ:=mG jD.out bs;obtain ⟨_,fy,apy,V4⟩:=IE RJ
         have eK:=I (show ∀q u,(s1.flatMap cE)[q]? = some u->wn.cell? ((⟨g,0,none⟩:Addr).add q) = some u from λq u hu=>by
          rw [Addr.add_lit,Nat.zero_add];refine V4 q u ?_
          rw [HE.out,List.flatMap_append,List.getElem?_append_left (List.getElem?_eq_some_iff.1 hu).1];exact hu)
         have Gn:=I (show ∀q u,((z :: s2).flatMap cE)[q]? = some u->wn.cell? ⟨g,jj * 2+q,none⟩ = some u from λq u hu=>by
          refine V4 (jj * 2+q) u ?_
          rw [HE.out,List.flatMap_append,List.getElem?_append_right (by rw [nj (row:=cE) (S:=2) (λ_=>rfl),HJ.out];omega),nj (row:=cE) (S:=2) (λ_=>rfl),HJ.out,Nat.add_sub_cancel_left];exact hu)
         have cA:jj+(z :: s2).length = N:=(by have e1:=congrArg List.length HE.out;have e2:=cW.out;have e3:=HJ.out;rw [List.length_append] at e1;omega);have rp:jj<=N:=J;have pv:jj<=cap:=J;have Sa:¬cap = jj:=J;replace k0:=r' hn k0 eD;replace k1:=r' hn k1 eD;have rR:b < wn.heap.size:=(by have:=hn.size;omega);have lH:=I cA;have kd:=I bs;clear RJ V4 cA bs;go_wp2_with fail
         refine zU wn 12 U' U' (aj _) ?_;refine YU (λa0 a' w'=>∃(g9 p9:Nat) (dj dl dm dp dq dr dt ed eQ eR:Value),a' = (Act.put (Act.put (Act.put (Act.put (Act.put (Act.put (Act.put (Act.put (Act.put (Act.put (Act.put (Act.put a0 (some 42) (dj)) (some 43) (dl)) (some 44) (dm)) (some 45) (dp)) (some 46) (dq)) (some 47) (dr)) (some 48) (dt)) (some 49) (ed)) (some 50) (eQ)) (some 51) (eR)) (some 52) (.slice (some ⟨g9,0,none⟩) (jj+1) p9)) (some 8) (.slice (some ⟨g9,0,none⟩) (jj+1) p9))/\Below wn.heap.size wn w'/\World.ownsRow w' wn.heap.size 113 2 (.slice (some ⟨g9,0,none⟩) (jj+1) p9) (jj+1) ((s1.flatMap cE)++[.string y.key,.string y.value])) ?_ ?_;rotate_left
         ·exact MX
         intro a' w7 ga;obtain ⟨g9,p9,dj,dl,dm,dp,dq,dr,dt,ed,eQ,eR,rfl,bw,nK⟩:=ga;try simp only [Act.put,pz]
         have bz:N - jj = (z :: s2).length:=(by have:=lH.out;omega);have pp:=I bz;clear bz
         go_wp2_with (
          at_builtin
          go_must (refine xW ux J' _ _ J' w7 wn.heap.size _ _ _ nK J' ⟨g,jj * 2,none⟩ (N - jj) (cap - jj) ((z :: s2).flatMap cE) J' (by rw [nj (row:=cE) (S:=2) (λ_=>rfl),pp.out]) (λq u hu=>by rw [Addr.add_lit];exact (bw.cell (p:=⟨g,jj * 2+q,none⟩) fy).trans (Gn.out q u hu)) (pH AS _) J J ni ?_)
          intro v8 w8 Le da mQ;rw [show jj+1+(N - jj) = N+1 by omega] at Le;obtain ⟨g8,p8,hv8,aJs,aJt,aJu⟩:=wW Le J
          subst hv8)
         exact Nx
   ·have bz:k = xs.length:=J;subst bz;rw [List.take_length] at bB cW;have xl:=I (show Below w.heap.size w wr from fp.out.trans (aM.mono fp.out.size));have Ia:=I aM;have b8:∀z∈bd (kS eE) [] (xs),z∈xs:=λz hz=>RS hz;rw [<- cW.out] at bB;obtain ⟨A4,c4,G4,hv4,hO4⟩:=VG (β:=ao) (row:=cE) rfl (bd (kS eE) [] (xs)) bB (λx hx=>aBD t8.out (b8 x hx) wr);rw [cW.out] at hv4;simp only [Value.slice.injEq,true_and] at hv4;obtain ⟨zn,ee⟩:=hv4;subst zn ee;have ng:=I (hO4.mono fp.out.size);have n9:=I (fe.oJ bB fp.out.size);have en:=I (Jw (bd (kS eE) [] (xs)) _ N cap G4 wr hO4.rd cW.out.symm (by rw [cW.out];omega) (λl hl=>Eo.out l (b8 l hl)));clear aM bB hO4 b8;cases hr:sD (bd (kS eE) [] (xs)) with
    | true =>have HR:=I (UH hr);exact Ey
    | false =>have HR:=I (UI hr);have ik:=I hr;clear hr;obtain ⟨A3,c3,G3,mK,hO3⟩:=ai.of_flat (λ{w x cs F} hh=>(vO hh).2.1) di.out o4.out;exact Dn
theorem aJR (xs:List ao) (A:Option Addr) (c:Nat) (F:List Nat) (w:World) (h:Sl w xs A c F) (hl:(xs.length:Int)<=1048576) (cN:∀l∈xs,(l.key.size:Int)<=1048576/\(l.value.size:Int)<=1048576) :
 Calls Tryz.prog 92 #[.slice A xs.length c] w λe w'=>∃A' c' G,e = .returned (.tuple #[.slice A' (BG xs).1.length c',.bool (BG xs).2])/\ai w' w.heap.size (BG xs).1 [.slice A' (BG xs).1.length c'] G/\Below w.heap.size w w' :=
 (aJP xs A c F w h hl cN).mono λ_ _ ⟨A',c',G,a,b,d,_⟩=>⟨A',c',G,a,b,d⟩
theorem aDx:(Tryz.prog.info? 116).map (λi=>(i.zero,i.size,i.bytes)) = some (some (.agg #[.string ⟨#[]⟩,.string ⟨#[]⟩,.int .i64 0]),3,40):=by kernel_rfl
theorem uv:DL Tryz.prog 36 116 (.agg #[.string ⟨#[]⟩,.string ⟨#[]⟩,.int .i64 0]) 3 40:=⟨Tryz.underlying36,aDx,rfl,J⟩
theorem TB {w:World} {xs:List iU} (h:∀x∈xs,rd w x (iZ x) []) {x:iU} (hx:x∈xs) (w':World):rd w' x (iZ x) []:=by
 obtain ⟨h0,h1,h2,h3,h4⟩:=oK (h x hx);exact Q8 w' x h2 h3 h4
theorem aJN (xs:List iU) (A:Option Addr) (c:Nat) (F:List Nat) (w:World) (h:Sl w xs A c F) (hl:(xs.length:Int)<=1048576) (cN:∀l∈xs,(l.key.size:Int)<=1048576/\(l.value.size:Int)<=1048576) :
 Calls Tryz.prog 100 #[.slice A xs.length c] w λe w'=>∃A' c' G,e = .returned (.tuple #[.slice A' (Fq xs).1.length c',.bool (Fq xs).2])/\ai w' w.heap.size (Fq xs).1 [.slice A' (Fq xs).1.length c'] G/\Below w.heap.size w w'/\((Fq xs).2 = true->fe w' w.heap.size 116 3 A' c'):=by
 have Eo:=I cN;clear cN
 have t8:=I (show ∀x∈xs,rd w x (iZ x) [] from λx hx=>by
  obtain ⟨k,hk,rfl⟩:=List.getElem_of_mem hx;obtain ⟨b,o,ck,Fk,_,_,_,hr,_,_⟩:=h.get hk;have h2:=oK hr;rw [h2.1,h2.2.1] at hr
  exact hr)
 go_enter Tryz.func100,Tryz.ntmps100
 go_wp2_with (
  at_builtin
  go_must (refine rW uv J' J' _ _ J' (w.alloc (.cells #[] 116)) w.heap.size _ 0 [] (D9 w 116 3 w.heap.size rfl) J' xs A c F (h.ext (ak (aj _) _)) J' J J S' ?_)
  intro v2 w2 ds G cH bi aw hg cF;go_must (obtain ⟨A2,c2,eO⟩:=mY aw)
  go_must (subst eO)
  go_must (have am:Below w.heap.size w w2:=lS (World.ownsRow_made (e:=116) (size:=3) w #[] 0 (Nat.le_refl _) (Nat.zero_le _) S') hg (ak (aj _) _) S'))
 all_goals
  simp only [Nat.zero_add,List.nil_append] at aw;try simp only [Nat.zero_add]
 ·have mw:¬xs.length<=40:=by omega
  have HR:=I (ayj mw);have tm:jo w2 xs ds G:=cH.frame (λb hb=>hg.block b (cH.lt b hb) (λe=>by have h1:=h.lt b (bi b hb);simp [Value.ownBlock] at e;omega)) hg.size;obtain ⟨A3,c3,G3,mK,hO3⟩:=ai.of_flat (λ{w x cs F} hh=>(oK hh).2.1) aw tm;exact DA
 ·have mw:xs.length<=40:=by omega
  have o4:=I (show jo w2 xs ds G from cH.frame (λb hb=>hg.block b (cH.lt b hb) (λe=>by have h1:=h.lt b (bi b hb);simp [Value.ownBlock] at e;omega)) hg.size);have di:=I aw;have fp:=I am;have cO:Sl w2 xs A c F:=h.ext am;clear aw cH hg cF bi am;go_wp2_with fail
  go_loopw [5,6] (λv i wr=>∃k N g cap:Nat,k<=xs.length/\N<=k/\i = .int .i64 (k:Int)/\v = .slice (some ⟨g,0,none⟩) N cap/\Hid ((dx qo [] (xs.take k)).length = N)/\wr.ownsRow w2.heap.size 116 3 (.slice (some ⟨g,0,none⟩) N cap) N ((dx qo [] (xs.take k)).flatMap iZ)/\Below w2.heap.size w2 wr) (λ_ i _=>xs.length - (intOf i).toNat)
  case atStart=>exact ⟨0,0,w2.heap.size,0,J,Nat.le_refl _,rfl,rfl,I rfl,D9 w2 116 3 w2.heap.size rfl,ak (aj _) _⟩
  case round =>
   obtain ⟨k,N,g,cap,hk,hNk,rfl,rfl,cW,bB,aM⟩:=hrel;by_cases ap:k < xs.length
   ·obtain ⟨wo,hwo⟩:∃wo,wo = wr:=⟨_,rfl⟩;subst hwo;obtain ⟨b,o,ck,Fk,hA,hbG,hbs,aJe,_,hcells⟩:=Sl.get cO ap;subst hA;have va:xs[k]∈xs:=List.getElem_mem ..;have eh:dx qo [] (xs.take (k+1)) = eA qo xs[k] (dx qo [] (xs.take k)):=(by rw [List.take_succ_eq_append_getElem ap,I6]);obtain ⟨y,hy⟩:∃y,xs[k] = y:=⟨_,rfl⟩;rw [hy] at aJe va eh;obtain ⟨ar,_⟩:=oK aJe;subst ar;have k0:wo.cell? ⟨b,o+k * 3,none⟩ = some (.string y.key):=r' aM (by have:=hcells 0 _ rfl;rwa [show o+(k * ax.size iU+0) = o+k * 3 by show o+(k * 3+0) = _;omega] at this) hbs;have k1:wo.cell? ⟨b,o+k * 3+1,none⟩ = some (.string y.value):=r' aM (by have:=hcells 1 _ rfl;rwa [show o+(k * ax.size iU+1) = o+k * 3+1 by show o+(k * 3+1) = _;omega] at this) hbs;have k2:wo.cell? ⟨b,o+k * 3+2,none⟩ = some (.int .i64 y.effect):=r' aM (by have:=hcells 2 _ rfl;rwa [show o+(k * ax.size iU+2) = o+k * 3+2 by show o+(k * 3+2) = _;omega] at this) hbs;have Jf:=I eh;have Rk:=I va;clear hcells hy eh va;have vc:=I (show ∀z∈dx qo [] (xs.take k),z∈xs from λz hz=>List.mem_of_mem_take (UK hz));generalize dx qo [] (xs.take k) = SS at *;obtain ⟨tE,fT,rN,hgc⟩:=IE bB;have R9:w2.heap.size<=wo.heap.size:=aM.size;have fq:b < wo.heap.size:=J;have nA:=I hgc;have jD:=I bB;have fv:=I aM;clear hgc bB aM;go_wp2_with fail
    go_loopw [7] (λj wr=>∃(s1 s2:List iU) (jj:Nat),Hid (SS = s1++s2)/\j = .int .i64 (jj:Int)/\Hid (s1.length = jj)/\Hid (∀z∈s1,qo z y = true)/\Below wo.heap.size wo wr) (λj _=>N - (intOf j).toNat)
    case atStart=>exact ⟨[],SS,0,I rfl,rfl,I rfl,I (λz hz=>by cases hz),aj _⟩
    case round =>
     obtain ⟨s1,s2,jj,HE,rfl,HJ,HN,bC⟩:=hrel;have mc:∀bq oq u,wo.cell? ⟨bq,oq,none⟩ = some u->bq < wo.heap.size->wr.cell? ⟨bq,oq,none⟩ = some u:=λbq oq u h1 h2=>(bC.cell (p:=⟨bq,oq,none⟩) h2).trans h1;replace k0:=mc _ _ _ k0 fq;replace k1:=mc _ _ _ k1 fq;replace k2:=mc _ _ _ k2 fq;have MC:=I mc;have qa:wo.heap.size<=wr.heap.size:=bC.size;have pI:b < wr.heap.size:=J;have mL:g < wr.heap.size:=J;clear mc;cases s2 with
     | nil =>
       have fI:jj = N:=(by have e1:=HE.out;have e2:=cW.out;have e3:=HJ.out;rw [e1,List.append_nil] at e2;omega);have sE:N<=jj:=J;have sF:decide ((jj:Int) < (N:Int)) = false:=(by simp;omega);have sH:decide (jj < N) = false:=(by simp;omega);clear fI;have HI:=I (show eA qo y (SS) = s1++y :: [] by rw [HE.out];exact QQ s1 HN.out);go_wp2_with fail
       refine aF wr U' U' (aj _) ?_
       repeat ((first | refine aG J' ?_ | refine aH _ J' cZ ?_);simp only [Act.put,pz])
       refine aN ?_;intro wm hn;replace hn:=hn.out;have kz:Below wo.heap.size wo wm:=ah bC hn;have jz:g < wm.heap.size:=(by have:=hn.size;omega);have kA:b < wm.heap.size:=(by have:=hn.size;omega);replace k0:=r' hn k0 eD;replace k1:=r' hn k1 eD;replace k2:=r' hn k2 eD;clear bC hn;obtain ⟨bC,pI,mL⟩:Below wo.heap.size wo wm/\b < wm.heap.size/\g < wm.heap.size:=⟨kz,kA,jz⟩;clear kz kA jz;go_wp2_with fail
       refine aF wm U' U' (aj _) ?_
       repeat ((first | refine aG J' ?_ | refine aH _ J' cZ ?_);simp only [Act.put,pz])
       refine aN ?_;intro wn hn;replace hn:=hn.out;have bs:Below wo.heap.size wo wn:=ah bC hn;have nZ:=I (show Below w2.heap.size w2 wn from ah fv.out bs);have RJ:=mG jD.out bs;obtain ⟨_,fy,apy,V4⟩:=IE RJ
       have eK:=I (show ∀q u,(s1.flatMap iZ)[q]? = some u->wn.cell? ((⟨g,0,none⟩:Addr).add q) = some u from λq u hu=>by
        rw [Addr.add_lit,Nat.zero_add];refine V4 q u ?_
        rw [HE.out,List.flatMap_append,List.getElem?_append_left (List.getElem?_eq_some_iff.1 hu).1];exact hu)
       have Gn:=I (show ∀q u,((([]:List iU)).flatMap iZ)[q]? = some u->wn.cell? ⟨g,jj * 3+q,none⟩ = some u from λq u hu=>by
        refine V4 (jj * 3+q) u ?_
        rw [HE.out,List.flatMap_append,List.getElem?_append_right (by rw [nj (row:=iZ) (S:=3) (λ_=>rfl),HJ.out];omega),nj (row:=iZ) (S:=3) (λ_=>rfl),HJ.out,Nat.add_sub_cancel_left];exact hu)
       have cA:jj+(([]:List iU)).length = N:=(by have e1:=congrArg List.length HE.out;have e2:=cW.out;have e3:=HJ.out;rw [List.length_append] at e1;omega);have rp:jj<=N:=J;have pv:jj<=cap:=J;replace k0:=r' hn k0 eD;replace k1:=r' hn k1 eD;replace k2:=r' hn k2 eD;have rR:b < wn.heap.size:=(by have:=hn.size;omega);have lH:=I cA;have kd:=I bs;clear RJ V4 cA bs;go_wp2_with fail
       refine zU wn 12 U' U' (aj _) ?_;refine YU (λa0 a' w'=>∃(g9 p9:Nat) (dj dl dm dp dq dr dt ed eQ eR:Value),a' = (Act.put (Act.put (Act.put (Act.put (Act.put (Act.put (Act.put (Act.put (Act.put (Act.put (Act.put (Act.put a0 (some 55) (dj)) (some 56) (dl)) (some 57) (dm)) (some 58) (dp)) (some 59) (dq)) (some 60) (dr)) (some 61) (dt)) (some 62) (ed)) (some 63) (eQ)) (some 64) (eR)) (some 65) (.slice (some ⟨g9,0,none⟩) (jj+1) p9)) (some 8) (.slice (some ⟨g9,0,none⟩) (jj+1) p9))/\Below wn.heap.size wn w'/\World.ownsRow w' wn.heap.size 116 3 (.slice (some ⟨g9,0,none⟩) (jj+1) p9) (jj+1) ((s1.flatMap iZ)++[.string y.key,.string y.value,.int .i64 y.effect])) ?_ ?_;rotate_left
       ·exact MW
       intro a' w7 ga;obtain ⟨g9,p9,dj,dl,dm,dp,dq,dr,dt,ed,eQ,eR,rfl,bw,nK⟩:=ga;try simp only [Act.put,pz]
       have cC:∃A0:Addr,(if cap = jj then some (⟨g,0,none⟩:Addr) else some ⟨g,jj * 3,none⟩) = some A0/\Hid (A0.block = g/\∀q u,((([]:List iU)).flatMap iZ)[q]? = some u->w7.cell? (A0.add q) = some u):=by
        by_cases hc:cap = jj
        ·exact yp
        ·exact ⟨⟨g,jj * 3,none⟩,by simp [hc],rfl,λq u hu=>by simp at hu⟩
       obtain ⟨A0,hA0,asg⟩:=cC;have bz:N - jj = (([]:List iU)).length:=(by have:=lH.out;omega);have pp:=I bz;clear bz
       go_wp2_with (
        at_builtin
        go_must (refine xW uv J' _ _ J' w7 wn.heap.size _ _ _ nK J' A0 0 (cap - jj) ((([]:List iU)).flatMap iZ) J' J' asg.out.2 (pH AR _) J J ni ?_)
        intro v8 w8 Le da mQ;rw [show jj+1+0 = N+1 by omega] at Le;obtain ⟨g8,p8,hv8,aJs,aJt,aJu⟩:=wW Le J
        subst hv8)
       exact Nv
     | cons z s2 =>
       have fI:jj < N:=(by have e1:=congrArg List.length HE.out;have e2:=cW.out;have e3:=HJ.out;rw [List.length_append,List.length_cons] at e1;omega);have z0:wr.cell? ⟨g,jj * 3,none⟩ = some (.string z.key):=MC.out _ _ _ (nA.out (jj * 3+0) _ (by rw [HE.out];exact xv (row:=iZ) (S:=3) (λ_=>rfl) _ jj z yW 0 _ rfl)) fT;have z1:wr.cell? ⟨g,jj * 3+1,none⟩ = some (.string z.value):=MC.out _ _ _ (nA.out (jj * 3+1) _ (by rw [HE.out];exact xv (row:=iZ) (S:=3) (λ_=>rfl) _ jj z yW 1 _ rfl)) fT;have z2:wr.cell? ⟨g,jj * 3+2,none⟩ = some (.int .i64 z.effect):=MC.out _ _ _ (nA.out (jj * 3+2) _ (by rw [HE.out];exact xv (row:=iZ) (S:=3) (λ_=>rfl) _ jj z yW 2 _ rfl)) fT;have sF:decide ((jj:Int) < (N:Int)) = true:=(by simp;omega);have Rj:=I (show z∈xs from vc.out z C8);cases hL:qo z y with
       | true =>
         have HL:=I hL;clear hL;go_wp2_with fail
         refine aF wr U' U' (aj _) ?_
         repeat ((first | refine aG J' ?_ | refine aH _ J' Lo ?_);simp only [Act.put,pz])
         exact x7
       | false =>
         have HL:=I hL;clear hL;go_wp2_with fail
         refine aF wr U' U' (aj _) ?_
         repeat ((first | refine aG J' ?_ | refine aH _ J' Lo ?_);simp only [Act.put,pz])
         refine aN ?_;intro wm hn;replace hn:=hn.out;have kz:Below wo.heap.size wo wm:=ah bC hn;have jz:g < wm.heap.size:=(by have:=hn.size;omega);have kA:b < wm.heap.size:=(by have:=hn.size;omega);replace k0:=r' hn k0 eD;replace k1:=r' hn k1 eD;replace k2:=r' hn k2 eD;replace z0:=r' hn z0 uB;replace z1:=r' hn z1 uB;replace z2:=r' hn z2 uB;clear bC hn;obtain ⟨bC,pI,mL⟩:Below wo.heap.size wo wm/\b < wm.heap.size/\g < wm.heap.size:=⟨kz,kA,jz⟩;cases hE:Aq z y with
         | true =>
           have HQ:=I hE;have HI:=I (show eA qo y (SS) = SS by rw [HE.out];exact QT s1 s2 HN.out HL.out (by rw [(Xx z y).1 hE];exact EN.re y) );clear hE kz kA jz;go_wp2_with fail
           refine aF wm U' U' (aj _) ?_
           repeat ((first | refine aG J' ?_ | refine aH _ J' Lv ?_);simp only [Act.put,pz])
           exact Nz
         | false =>
           have HQ:=I hE
           have HG:=I (show qo y z = true by
            cases hh:qo y z with
            | true=>rfl
            | false=>have:=EN.xR z y HL.out hh;rw [(Xx z y).2 this] at hE;cases hE)
           have HI:=I (show eA qo y (SS) = s1++y :: (z :: s2) by rw [HE.out];exact QR s1 s2 HN.out HL.out HG.out);clear hE kz kA jz;go_wp2_with fail
           refine aF wm U' U' (aj _) ?_
           repeat ((first | refine aG J' ?_ | refine aH _ J' Lv ?_);simp only [Act.put,pz])
           refine aN ?_;intro wn hn;replace hn:=hn.out;simp only [HQ.out];have bs:Below wo.heap.size wo wn:=ah bC hn;have nZ:=I (show Below w2.heap.size w2 wn from ah fv.out bs);have RJ:=mG jD.out bs;obtain ⟨_,fy,apy,V4⟩:=IE RJ
           have eK:=I (show ∀q u,(s1.flatMap iZ)[q]? = some u->wn.cell? ((⟨g,0,none⟩:Addr).add q) = some u from λq u hu=>by
            rw [Addr.add_lit,Nat.zero_add];refine V4 q u ?_
            rw [HE.out,List.flatMap_append,List.getElem?_append_left (List.getElem?_eq_some_iff.1 hu).1];exact hu)
           have Gn:=I (show ∀q u,((z :: s2).flatMap iZ)[q]? = some u->wn.cell? ⟨g,jj * 3+q,none⟩ = some u from λq u hu=>by
            refine V4 (jj * 3+q) u ?_
            rw [HE.out,List.flatMap_append,List.getElem?_append_right (by rw [nj (row:=iZ) (S:=3) (λ_=>rfl),HJ.out];omega),nj (row:=iZ) (S:=3) (λ_=>rfl),HJ.out,Nat.add_sub_cancel_left];exact hu)
           have cA:jj+(z :: s2).length = N:=(by have e1:=congrArg List.length HE.out;have e2:=cW.out;have e3:=HJ.out;rw [List.length_append] at e1;omega);have rp:jj<=N:=J;have pv:jj<=cap:=J;have Sa:¬cap = jj:=J;replace k0:=r' hn k0 eD;replace k1:=r' hn k1 eD;replace k2:=r' hn k2 eD;have rR:b < wn.heap.size:=(by have:=hn.size;omega);have lH:=I cA;have kd:=I bs;clear RJ V4 cA bs;go_wp2_with fail
           refine zU wn 12 U' U' (aj _) ?_;refine YU (λa0 a' w'=>∃(g9 p9:Nat) (dj dl dm dp dq dr dt ed eQ eR:Value),a' = (Act.put (Act.put (Act.put (Act.put (Act.put (Act.put (Act.put (Act.put (Act.put (Act.put (Act.put (Act.put a0 (some 55) (dj)) (some 56) (dl)) (some 57) (dm)) (some 58) (dp)) (some 59) (dq)) (some 60) (dr)) (some 61) (dt)) (some 62) (ed)) (some 63) (eQ)) (some 64) (eR)) (some 65) (.slice (some ⟨g9,0,none⟩) (jj+1) p9)) (some 8) (.slice (some ⟨g9,0,none⟩) (jj+1) p9))/\Below wn.heap.size wn w'/\World.ownsRow w' wn.heap.size 116 3 (.slice (some ⟨g9,0,none⟩) (jj+1) p9) (jj+1) ((s1.flatMap iZ)++[.string y.key,.string y.value,.int .i64 y.effect])) ?_ ?_;rotate_left
           ·exact MW
           intro a' w7 ga;obtain ⟨g9,p9,dj,dl,dm,dp,dq,dr,dt,ed,eQ,eR,rfl,bw,nK⟩:=ga;try simp only [Act.put,pz]
           have bz:N - jj = (z :: s2).length:=(by have:=lH.out;omega);have pp:=I bz;clear bz
           go_wp2_with (
            at_builtin
            go_must (refine xW uv J' _ _ J' w7 wn.heap.size _ _ _ nK J' ⟨g,jj * 3,none⟩ (N - jj) (cap - jj) ((z :: s2).flatMap iZ) J' (by rw [nj (row:=iZ) (S:=3) (λ_=>rfl),pp.out]) (λq u hu=>by rw [Addr.add_lit];exact (bw.cell (p:=⟨g,jj * 3+q,none⟩) fy).trans (Gn.out q u hu)) (pH AR _) J J ni ?_)
            intro v8 w8 Le da mQ;rw [show jj+1+(N - jj) = N+1 by omega] at Le;obtain ⟨g8,p8,hv8,aJs,aJt,aJu⟩:=wW Le J
            subst hv8)
           exact Nv
   ·have bz:k = xs.length:=J;subst bz;rw [List.take_length] at bB cW;have xl:=I (show Below w.heap.size w wr from fp.out.trans (aM.mono fp.out.size));have Ia:=I aM;have b8:∀z∈dx qo [] (xs),z∈xs:=λz hz=>UK hz;rw [<- cW.out] at bB;obtain ⟨A4,c4,G4,hv4,hO4⟩:=VG (β:=iU) (row:=iZ) rfl (dx qo [] (xs)) bB (λx hx=>TB t8.out (b8 x hx) wr);rw [cW.out] at hv4;simp only [Value.slice.injEq,true_and] at hv4;obtain ⟨zn,ee⟩:=hv4;subst zn ee;have ng:=I (hO4.mono fp.out.size);have n9:=I (fe.oJ bB fp.out.size);have en:=I (ZL (dx qo [] (xs)) _ N cap G4 wr hO4.rd cW.out.symm (by rw [cW.out];omega) (λl hl=>Eo.out l (b8 l hl)));clear aM bB hO4 b8;cases hr:La (dx qo [] (xs)) with
    | true =>have HR:=I (UJ mw hr);exact Ey
    | false =>have HR:=I (az7 hr);have ik:=I hr;clear hr;obtain ⟨A3,c3,G3,mK,hO3⟩:=ai.of_flat (λ{w x cs F} hh=>(oK hh).2.1) di.out o4.out;exact Dn
theorem ayM (xs:List iU) (A:Option Addr) (c:Nat) (F:List Nat) (w:World) (h:Sl w xs A c F) (hl:(xs.length:Int)<=1048576) (cN:∀l∈xs,(l.key.size:Int)<=1048576/\(l.value.size:Int)<=1048576) :
 Calls Tryz.prog 100 #[.slice A xs.length c] w λe w'=>∃A' c' G,e = .returned (.tuple #[.slice A' (Fq xs).1.length c',.bool (Fq xs).2])/\ai w' w.heap.size (Fq xs).1 [.slice A' (Fq xs).1.length c'] G/\Below w.heap.size w w' :=
 (aJN xs A c F w h hl cN).mono λ_ _ ⟨A',c',G,a,b,d,_⟩=>⟨A',c',G,a,b,d⟩
end Go.Proofs.YtdegaofigemegaaGreat
