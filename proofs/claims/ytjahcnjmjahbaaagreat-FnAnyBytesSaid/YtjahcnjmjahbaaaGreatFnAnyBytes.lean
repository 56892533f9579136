/- FnAnyBytes: for all bytes: drawn bytes are nothing, or a right cluster whose bytes they are. No condition. -/
import Derived.Test.YtjahcnjmjahbaaaGreatAppO
import Derived.Test.YtjahcnjmjahbaaaGreatRdSnI
import Derived.Test.YtjahcnjmjahbaaaGreatRdSnS
import Derived.StillTailTactics
namespace Go.Proofs.YtjahcnjmjahbaaaGreat.fnAnyBytes
open Go.ChangeShapes Go.WideShapes Go.ChangeAt Go.RowKit
set_option linter.unusedVariables false
set_option linter.unusedSimpArgs false
set_option maxHeartbeats 8000000
set_option maxRecDepth 100000
theorem R9 (t:ByteArray):ST t = VT t.size++dB t:=by show dB (aL t) = _;unfold aL;rw [rj];rfl
theorem aaL:VT 0 = [0]:=by show dB (jD 0) = _;rw [Bf (by decide)];exact xU (by decide)
theorem aaM:VT 1 = [1]:=by show dB (jD 1) = _;rw [Bf (by decide)];exact xU (by decide)
theorem Sa:LT [⟨⟨#[97]⟩,⟨#[]⟩⟩] = [1,1,97,0]:=by
 rw [Bi];simp only [List.flatMap_cons,List.flatMap_nil,R9,List.length_cons,List.length_nil];rw [show ((⟨#[97]⟩:ByteArray).size:Int) = 1 from rfl,show ((⟨#[]⟩:ByteArray).size:Int) = 0 from rfl,show ((0+1:Nat):Int) = 1 from rfl,aaL,aaM];rfl
theorem aFm:sD [⟨⟨#[97]⟩,⟨#[]⟩⟩] = true:=by decide +kernel
theorem aCf:qB ⟨#[1,1,97,0]⟩ 0 = ([⟨⟨#[97]⟩,⟨#[]⟩⟩],4):=by
 have h:=(aJW ⟨#[1,1,97,0]⟩ (by decide) 0 (by decide) [⟨⟨#[97]⟩,⟨#[]⟩⟩] 4).2 ⟨aFm,by rw [Sa];exact List.prefix_refl _,by rw [Sa];rfl⟩;unfold qB;rw [h.1];rfl
theorem ai.Sb (w:World) (B:Nat):ai w B nX [.slice none 0 0,.slice none 0 0,.int .i64 0,.int .i64 0,.int .i64 0,.int .i64 0] []:=by
 refine ai.up (B':=B) (λx:aU=>(x.aa,x.O,x.next,x.weights)) ?_ (Nat.le_refl _);have h1:ai w B ([]:List az) [.slice none 0 0] []:=ai.flat (Sl.nil w none 0 (Nat.zero_le _));have h2:ai w B ([]:List ag) [.slice none 0 0] []:=ai.flat (Sl.nil w none 0 (Nat.zero_le _));have h3:ai w B ((0:Int),(⟨0,0,0⟩:rZ)) ([.int .i64 0]++[.int .i64 0,.int .i64 0,.int .i64 0]) []:=ai.cons (jL w 0 p') (ai.flat (Zj w ⟨0,0,0⟩ Ir Ir Ir));exact Nu
theorem aGm (s:ByteArray) (hs:(s.size:Int)<=1048576):(zh s).1.wt<=20000:=by
 cases h:(zh s).2 with
 | true=>exact Us (aJA hs h).1
 | false=>rw [aJX h];decide
theorem walk (xs:List UInt8) (A:Option Addr) (cap:Nat) (F:List Nat) (w:World) (h:Sl w xs A cap F) :
 Calls Tryz.prog 4 #[.slice A xs.length cap] w λe w'=>e = .returned (.bool true)/\Below w.heap.size w w':=by
 have cL:=I (aAQ h);clear h;by_cases hbig:(1048576:Int) < xs.length
 ·have hd:decide ((1048576:Int) < xs.length) = true:=by simpa using hbig
  have HD:=I hd;clear hd hbig;go_enter Tryz.func4,Tryz.ntmps4;go_wp2_with fail
  refine (ayY _ _ _ _).mono ?_;rw [HD.out];rintro e w1 ⟨rfl,bi⟩;go_wp2;go_ret
  exact ⟨rfl,bi⟩
 ·have hd:decide ((1048576:Int) < xs.length) = false:=by simpa using hbig
  have HD:=I hd;have HN:=I (show (xs.length:Int)<=1048576 by omega);clear hd hbig;go_enter Tryz.func4,Tryz.ntmps4;go_wp2_with fail
  refine (ayY _ _ _ _).mono ?_;rw [HD.out];rintro e w1 ⟨rfl,bi⟩;go_wp2_with fail
  refine (aAk _ A xs.length cap HN.out (λk hk=>?_)).mono ?_
  ·obtain ⟨g,o,v,e,hg,hv,hJ⟩:=cL.out k hk;exact ⟨g,o,v,e,Nat.lt_of_lt_of_le hg bi.size,(bi.cell (p:=⟨g,o+k,none⟩) hg).trans hv,hJ⟩
  rintro e w2 ⟨s,rfl,hs,ap⟩;have iY:=I (ah bi ap:Below w.heap.size w w2);have cF:(s.size:Int)<=1048576:=by omega
  have Eo:=I (ah8 s);have Du:=I (aGm s cF);have ia:=I (λhh=>aAl cF (s:=s) hh);have HNO:=I (λhh=>aJX (s:=s) hh);clear cL bi ap HN HD;go_wp2_with fail
  refine (ah9 s _ cF).mono ?_;have HI:=I (λwq=>ah7 s wq cF);rw [<- Eo.out] at HI;obtain ⟨z,hz⟩:∃z,zh s = z:=⟨_,rfl⟩;rw [hz] at HI Du ia HNO |-;obtain ⟨y,b⟩:=z;dsimp only at HI Du ia HNO |-;rintro e w3 ⟨ds3,F3,rfl,hO3,ba⟩;have hR:=hO3.rd;obtain ⟨aBq,aBr,aGn,aDj,aDk,Fpodsb,aq,Jr,aGo,hpodsb,hnextb,aAm,ayI,aAn⟩:=aO hR;subst aq;have gY:=I hO3;have lE:=I (ah iY.out ba);clear Jr hR hO3 ba iY hz Eo;have HK3:=I (oG.new w3 [.slice aBq y.aa.length aBr,.slice aDj y.O.length aDk,.int .i64 y.next,.int .i64 y.weights.pack,.int .i64 y.weights.spread,.int .i64 y.weights.soft] 29);go_wp2_with fail
  refine (HI.out _).mono ?_;rintro e w4 ⟨ds4,F4,rfl,i6,bC⟩;have hR:=i6.rd;obtain ⟨aDN,aDO,aGp,aFo,aFp,Fpodsc,aq,hGc,aDP,aFq,aFr,axk,aJQ,axl⟩:=aO hR;subst aq;have lB:=I i6;have HK4:=I (HK3.out.ext bC);replace bC:Below w3.heap.size w3 w4:=ah (ak (aj _) _) bC;have HP4:=I (gY.out.ext bC);have ka:=I (ah lE.out bC);have HJ4:=I (oG.new w4 [.slice aDN y.aa.length aDO,.slice aFo y.O.length aFp,.int .i64 y.next,.int .i64 y.weights.pack,.int .i64 y.weights.spread,.int .i64 y.weights.soft] 29);have Wy:=bC.size;clear hGc hR i6 bC lE gY HK3 HI;go_wp2_with fail
  refine (aer ⟨#[1,1,97,0]⟩ 0 _ (by decide) p').mono ?_;rw [aCf];rintro e w5 ⟨A5,c5,F5,rfl,fH,bj⟩;dsimp only at fH |-;have kj:=HJ4.out.ext bj;have kk:=(HK4.out.ext (ak (aj _) _)).ext bj;replace bj:Below w4.heap.size w4 w5:=ah (ak (aj _) _) bj;have so:=I (lB.out.ext bj);have IH:=I (HP4.out.ext bj);have Bk:=I (ah ka.out bj);have HK5:=I kk;have bs:=kk.lt;have gp:=kj.lt;obtain ⟨Sc,fkj_0,kkj_1,fkj_1,kkj_2,fkj_2,kkj_3,fkj_3,kkj_4,fkj_4,kkj_5,fkj_5⟩:=vi kj;obtain ⟨aFs,aFt,aFu,aFv,aFw,aFx,aFy,aFz,aFA,aFB,aFC,aFD⟩:=vi kk;obtain ⟨b5,o5,ck5,Fk5,hA5,_,hb5l,ix,_,j7⟩:=Sl.get (show Sl w5 [(⟨⟨#[97]⟩,⟨#[]⟩⟩:ao)] A5 c5 F5 from fH.rd) (k:=0) (by decide);obtain ⟨aq,_⟩:=vO ix;subst aq;subst hA5;have q0:w5.cell? ⟨b5,o5,none⟩ = some (.string ⟨#[97]⟩):=by have h0:=j7 0 _ rfl;rwa [show o5+(0 * bd.size ao+0) = o5 by omega] at h0
  have q1:w5.cell? ⟨b5,o5+1,none⟩ = some (.string ⟨#[]⟩):=by have h0:=j7 1 _ rfl;rwa [show o5+(0 * bd.size ao+1) = o5+1 by omega] at h0
  have aaN:=(show Sl w5 [(⟨⟨#[97]⟩,⟨#[]⟩⟩:ao)] (some ⟨b5,o5,none⟩) c5 F5 from fH.rd).cap;have HSE:=I ((jI y y).2 rfl);clear kj kk fH lB HP4 ka HK4 HJ4 j7 ix bj;go_wp2_with fail
  refine (ac7 y y _ _ _ _ w5 IH.out.rd so.out.rd Ox Ox).mono ?_;rw [HSE.out];rintro e w6 ⟨rfl,dx⟩;have vn:=I (IH.out.ext dx);have HB6:=I (ah Bk.out dx);have kk:=HK5.out.ext dx;have HK6:=I kk;have abb:=kk.lt;have r0:=r' dx q0 hb5l;have r1:=r' dx q1 hb5l;have abc:b5 < w6.heap.size:=Nat.lt_of_lt_of_le hb5l dx.size;clear dx IH Bk HK5 so q0 q1 Sc fkj_0 kkj_1 fkj_1 kkj_2 fkj_2 kkj_3 fkj_3 kkj_4 fkj_4 kkj_5 fkj_5 aFs aFt aFu aFv aFw aFx aFy aFz aFA aFB aFC aFD;obtain ⟨aFs,aFt,aFu,aFv,aFw,aFx,aFy,aFz,aFA,aFB,aFC,aFD⟩:=vi kk;clear kk;cases b
  ·have hyz:y = nX:=HNO.out rfl;have HZ:=I ((jI y nX).2 hyz);clear hyz;go_wp2_with fail
   refine (ac7 y nX _ _ _ _ w6 vn.out.rd (ai.Sb w6 0).rd Ox (by decide)).mono ?_;rw [HZ.out];rintro e w7 ⟨rfl,bx⟩;go_wp2;go_ret
   exact ⟨rfl,ah HB6.out bx⟩
  ·obtain ⟨hG,hT⟩:=ia.out rfl;have HQ:=I ((PQ y).2 hG);have HT:=I hT;clear hG hT;go_wp2_with fail
   refine (qM y _ _ w6 vn.out.rd Ox).mono ?_;rw [HQ.out];rintro e w7 ⟨rfl,bx⟩;have PF:=I (vn.out.ext bx);have va:=I (ah HB6.out bx);have kl:=HK6.out.ext bx;have abe:=kl.lt;clear bx vn HB6 HK6 aFs aFt aFu aFv aFw aFx aFy aFz aFA aFB aFC aFD;obtain ⟨aaO,fkl_0,kkl_1,fkl_1,kkl_2,fkl_2,kkl_3,fkl_3,kkl_4,fkl_4,kkl_5,fkl_5⟩:=vi kl;clear kl;go_wp2_with fail
   refine (aif y _ _ w7 PF.out.rd Ox).mono ?_;rw [HT.out];rintro e w8 ⟨rfl,lA⟩;go_wp2;go_ret
   exact ⟨S',ah va.out lA⟩
theorem gX {H:Type} {enc:TypeId × Value->H} (W:World) (base:Nat) (args:Array Value) (ds:List (DataW H)) (p:List MemPlace)
 (hval:∀(j:Nat) t v,Tryz.f4.params[j]? = some t->args[j]? = some v->Value.okWide Tryz.prog W .any base t v)
 (hA:DataW.TrodAll enc Tryz.prog W 0 (λ_=>true) true Tryz.f4.params.toList args.toList ds p) (am:∀x∈p,x.block < W.heap.size) :
 Calls Tryz.prog 4 args W λe W'=>e = .returned (.bool true)/\Below W.heap.size W W':=by
 rw [Tryz.params4] at hA hval;obtain ⟨v0,JM,d0,ds0,p0,q0,zK,rfl,rfl,h0,r0⟩:=trodAll_cons hA;obtain ⟨rfl,rfl,rfl⟩:=trodAll_nil r0;obtain rfl:args = #[v0]:=by cases args;simp_all
 obtain ⟨fc,hf⟩:=h0;obtain ⟨xs,F,hr⟩:=yH Tryz.underlying22 rfl (aBV Tryz.underlying5) H enc W 0 fc _ _ _ _ hf;obtain ⟨A,c,hv,hS⟩:=jB hr;obtain ⟨B,n,d,rfl⟩:=okWide_slice Tryz.underlying22 (hval 0 22 v0 rfl rfl);simp [Value.cells] at hv;obtain ⟨rfl,rfl,rfl⟩:=hv;exact walk xs B d F W hS
theorem own:ownKnob Tryz.prog.godebug = none:=by kernel_rfl
theorem laid:laidOutB Tryz.prog = true:=by kernel_rfl
theorem readable:∀t∈Tryz.f4.params.toList,Tryz.prog.readableRec t = true/\t < Tryz.prog.types.size:=by
 have h:(Tryz.f4.params.toList.all λt=>Tryz.prog.readableRec t&&decide (t < Tryz.prog.types.size)) = true:=by kernel_rfl
 intro t ht;have:=List.all_eq_true.1 h t ht;simpa using this
theorem fF {H:Type} {enc:TypeId × Value->H} {W:World} {args:List Value} {ds:List (DataW H)} {p:List MemPlace}
 (h:DataW.TrodAll enc Tryz.prog W 0 (λ_=>true) true Tryz.f4.params.toList args ds p):∃d0,ds = [d0]:=by
 rw [Tryz.params4] at h;obtain ⟨v0,JM,d0,ds0,p0,q0,_,rfl,_,_,r0⟩:=trodAll_cons h;obtain ⟨_,rfl,_⟩:=trodAll_nil r0;exact ⟨d0,rfl⟩
theorem lifted (os:Os) (started:os.Started) (H:Type) (enc:TypeId × Value->H) :
 ReturnsInHanded {} Tryz.checked os 4 .any (Rows.fnAnyBytesSpec.pre6 enc Tryz.prog Tryz.f4 Rows.fnAnyBytesRow.domain false) (Rows.fnAnyBytesSpec.post enc Tryz.prog Tryz.f4 false true false false):=by
 refine returnsInHanded_of_change (C:=Tryz.checked) own started U' Tryz.func4
  (ChangeSpec.witness6 (enc:=enc) (C:=Tryz.checked) false ⟨#[],#[.slice none 0 0],[]⟩ 8 U' U' U' U') ?_
 intro W base args ds gs before Sd hW hcnd _;have am:∀x∈before,x.block < W.heap.size:=λx hx=>hW.lt x hx;have hW':=hW;obtain ⟨p,q,hA,hV,rfl,_,_⟩:=hW';exact (gX W base args ds p Sd hA (λx hx=>am x (List.mem_append_left _ hx))).mono λe W' ⟨he,hb⟩ =>
  ⟨_,he,nO laid readable rfl Tryz.underlying4 rfl auW hW hb⟩
theorem over:Rows.fnAnyBytesRow.holds Tryz.pinned (OpenSpec.ofChange Rows.fnAnyBytesSpec) :=
 OpenClaim.holds_of_wide 4 Tryz.f4 rfl rfl rfl rfl rfl rfl rfl ⟨rfl,rfl,rfl,rfl,rfl⟩ rfl rfl rfl rfl rfl U' Tryz.func4 U'
  (of_decide_eq_true U') auf
  (λos started H enc _=>lifted os started H enc)
theorem proved:Rows.FnAnyBytesSaid :=
 over
#print axioms proved
end Go.Proofs.YtjahcnjmjahbaaaGreat.fnAnyBytes
