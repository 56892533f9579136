/- Draws of one need. No condition. -/
import Derived.Test.YtjahcnjmjahbaaaGreatDrawW
import Derived.Test.YtjahcnjmjahbaaaGreatSortNeedsS
import Derived.Test.YtjahcnjmjahbaaaGreatCopyS
import Derived.Deep.CutRange
namespace Go.Proofs.YtjahcnjmjahbaaaGreat
open Go.ChangeShapes Go.WideShapes Go.ChangeAt Go.RowKit
set_option linter.unusedVariables false
set_option linter.unusedSimpArgs false
set_option maxHeartbeats 8000000
set_option maxRecDepth 100000
theorem am.My {w:World} {B:Nat} {k:ByteArray} {op:Int} {vs:List ByteArray} {A:Option Addr} {c:Nat} {G:List Nat} (h:am w B vs [.slice A vs.length c] G) (hk:k.size≤maxLen) (ho:bi op):am w B (⟨k,op,vs⟩:ba) [.string k,.int .i64 op,.slice A vs.length c] G:=by
 refine am.up (B':=B) (fun x:ba=>(x.key,x.op,x.values)) ?_ (Nat.le_refl _);exact am.cons (c1:=[.string k]) (cV w k (rV hk)) (am.cons (c1:=[.int .i64 op]) (jL w op ho) h)
theorem aEd (w:World) (c:Nat) (A:Option Addr) (n aL:Nat) (h:cr w c A n aL) :
 Calls Tryz.prog 216 #[.pointer (some ⟨c,0,none⟩)] w fun e w'=>∃(x:ba) (A':Option Addr) (c':Nat) (G:List Nat),e = .returned (.agg #[.string x.key,.int .i64 x.op,.slice A' x.values.length c'])∧am w' w.heap.size x [.string x.key,.int .i64 x.op,.slice A' x.values.length c'] G∧x.wt≤35∧cr w' c A n aL∧nN [c] w w'∧eI w' w.heap.size 9 1 A' c':=by
 have ap:=h.lt;have HC:=I h;clear h;go_enter Tryz.func216,Tryz.ntmps216;go_wp2_with fail
 refine (Qg _ c A n aL (HC.out.ext (ak (aj _) _))).mono ?_;rintro e w1 ⟨s1,rfl,cJ,H1,hu1⟩;replace H1:=I H1;go_wp2_with fail
 refine (lO 4 J _ c A n aL H1.out).mono ?_;rintro e w2 ⟨r,rfl,hr,H2,cR⟩;replace H2:=I H2;have X0:=oG.new w [.string ⟨#[]⟩,.int .i64 0,.slice none 0 0] 89;have X2:=(X0.bX hu1 J).bX cR J;have cQ:=hu1.size;have cD:=cR.size;simp at cQ;have ce:=H2.out.lt;have U2:=I (((nN.lq [c] (ak (aj w) _)).trans hu1).trans cR);have Y2:=oG.new w2 [.string s1,.int .i64 (1+r),.slice none 0 0] 89;replace X2:=X2.ext (ak (aj _) (.cells [.string s1,.int .i64 (1+r),.slice none 0 0].toArray 89));replace U2:=I (U2.out.alloc (.cells #[.string s1,.int .i64 (1+r),.slice none 0 0] 89));have i6:=I (H2.out.ext (ak (aj _) (.cells #[.string s1,.int .i64 (1+r),.slice none 0 0] 89)));clear X0 hu1 cR H1 H2 HC;have hI:bi (1+(r:Int)):=by unfold bi;omega
 by_cases h3:(1+(r:Int)) < 3
 ·go_wp2_with fail
  go_loopw [4,5] (fun v i wr=>∃(xs:List ByteArray) (ds:List Value) (A':Option Addr) (c' k:Nat),v = .slice A' xs.length c'∧i = .int .i64 k∧(k:Int)≤3∧Hid (xs.length = k∧(∀s∈xs,s.size≤8)∧wr.ownsRow (w2.heap.size+1) 9 1 (.slice A' xs.length c') xs.length ds∧jo wr xs ds []∧oG wr w.heap.size [.string ⟨#[]⟩,.int .i64 0,.slice none 0 0]∧oG wr w2.heap.size [.string s1,.int .i64 (1+r),.slice none 0 0]∧cr wr c A n aL∧nN [c] w wr∧w2.heap.size+1≤wr.heap.size)) (fun _ i _=>3 - (intOf i).toNat)
  case atStart =>exact ⟨[],[],_,_,0,rfl,rfl,J,I ⟨rfl,(fun s hs=>by cases hs),D9 _ 9 1 _ S',⟨rfl,rfl⟩,X2.ext (ak (aj _) _),Y2.ext (ak (aj _) _),i6.out.ext (ak (aj _) _),U2.out.alloc _,S'⟩⟩
  case round =>
   obtain ⟨xs,ds,A',c',k,rfl,rfl,hk,HX⟩:=hrel;obtain ⟨Kb,cX,bI,dq,hX,hY,hC,hU,hz⟩:=HX.out;have gM:=I bI;have mu:=I dq;have Mz:=I hX;have HYB:=I hY;have oB:=I hC;have HU:=I hU;have Eo:=I cX;have yW:(xs.length:Int)≤3:=J;have Kc:=I Kb;clear bI dq hX hY hC hU cX Kb HX X2 Y2 U2 i6;go_wp2_with fail
   refine (lO 3 J _ c A n aL oB.out).mono ?_;rintro e w4 ⟨q,rfl,hq,H4,Td⟩;have gS:=I H4;have QD:=I (rQ gM.out Td J);have CE:=I (Mz.out.bX Td J);have vf:=I (HYB.out.bX Td J);have nQ:=I (HU.out.trans Td);have Wy:=Td.size;have MA:=I (show jo w4 xs ds [] from mu.out.frame (fun b hb=>by cases hb) Wy);clear H4 Td gM Mz HYB HU oB mu;by_cases hkq:(k:Int) < 1+q
   ·go_wp2_with fail
    refine (Qh _ c A n aL gS.out).mono ?_;rintro e w5 ⟨s2,rfl,cE,H5,hu5⟩;have jb:=I H5;have bb:=rQ QD.out hu5 (show c < w2.heap.size+1 by omega);have vh:=I (CE.out.bX hu5 J);have Vw:=I (vf.out.bX hu5 J);have sH:=I (nQ.out.trans hu5);have Es:=hu5.size;have HZ5:w2.heap.size+1≤w5.heap.size:=J;clear H5 hu5 QD CE vf nQ gS
    go_wp2_with (
     at_builtin
     go_must (refine lC qw X _ _ X _ _ _ _ _ bb X [.string s2] jS X eu J J HZ5 ?_)
     intro v6 w6 oC Ej sC;go_must (obtain ⟨A6,c6,hv6⟩:=mY oC)
     go_must (subst hv6)
     go_must (have dv:Below (w2.heap.size+1) w5 w6:=lS bb Ej (Below.refl _ _) HZ5))
    have dB:(xs++[s2]).length = xs.length+1:=S';have Vx:jo w6 (xs++[s2]) (ds++[.string s2]) []:=(aY.push (B:=w2.heap.size+1) (B':=w2.heap.size+1) ⟨MA.out.frame (fun b hb=>by cases hb) J,List.nodup_nil,(fun b hb=>by cases hb),(fun b hb=>by cases hb)⟩ (am.dy (cV w6 s2 (rV (len8 cE)))) (Nat.le_refl _) (fun b hb=>by cases hb)).rd;refine ⟨⟨xs++[s2],ds++[.string s2],A6,c6,k+1,(by rw [dB]),N',J,I ⟨by have:=Kc.out;omega,fun s hs=>?_,(by rw [dB];exact oC),Vx,vh.out.br (dv.block _ J),Vw.out.br (dv.block _ J),jb.out.aM dv J,sH.out.oT dv J,by have:=dv.size;omega⟩⟩,by simp only [intOf];omega⟩;rcases List.mem_append.1 hs with hs | hs
    ·exact Eo.out s hs
    ·rw [List.mem_singleton] at hs;subst hs;exact cE
   ·obtain ⟨A5,c5,G5,fT,fH⟩:=am.oJ (α:=ByteArray) QD.out ⟨MA.out,List.nodup_nil,(fun b hb=>by cases hb),(fun b hb=>by cases hb)⟩ (fun g _ hm=>by cases hm);simp only [Value.slice.injEq,true_and] at fT;obtain ⟨rfl,rfl⟩:=fT;have qm:=I fH;clear fH QD;go_wp2_with fail
    refine (aJU xs A' c' G5 w4 qm.out.rd J).mono ?_;rintro e w5 ⟨A6,c6,G6,rfl,iD,dv,Jg⟩;have Vx:=I (Jg.mono (B':=w2.heap.size+1) J);have Es:=dv.size;have jb:=I (gS.out.ext dv);have sH:=I (nQ.out.oT dv J);have vi:=I iD;have hX5:=CE.out.ext dv;have hY5:=vf.out.ext dv;obtain ⟨Vy,fhX5_0,khX5_1,fhX5_1,khX5_2,fhX5_2⟩:=Tf hX5;obtain ⟨Vz,fhY5_0,khY5_1,fhY5_1,khY5_2,fhY5_2⟩:=Tf hY5;clear hX5 hY5 dv iD CE vf gS nQ
    have MD:=I (show (⟨s1,1+r,gf xs⟩:ba).wt≤35 from by
     have h1:=aB3 xs;have h2:kL ByteArray.size xs≤3 * (8+1):=wK (n:=3) (b:=8) J Eo.out;show s1.size+kL ByteArray.size (gf xs)≤35
     omega)
    have hlv:(gf xs).length≤xs.length:=aAP xs;generalize gf xs = vs at *;go_wp2;refine bodyPost_ret (v:=.agg #[.string s1,.int .i64 (1+r),.slice A6 vs.length c6]) (by simp [results,Tryz.results216,go_sem, *]) rfl ?_;have fJ:w.heap.size < w4.heap.size:=J;have bk:w2.heap.size < w4.heap.size:=J;exact ⟨⟨s1,1+r,vs⟩,A6,c6,G6,rfl,am.My ((((((vi.out.setCell (p:=⟨w2.heap.size,2,none⟩) bk _).setCell (p:=⟨w.heap.size,0,none⟩) fJ _).setCell (p:=⟨w.heap.size,1,none⟩) fJ _).setCell (p:=⟨w.heap.size,2,none⟩) fJ _)).mono J) (len8 cJ) hI,MD.out,(((jb.out.bE J 2 _).bE ap 0 _).bE ap 1 _).bE ap 2 _,(((sH.out.new J 2 _).new (Nat.le_refl _) 0 _).new (Nat.le_refl _) 1 _).new (Nat.le_refl _) 2 _,((((Vx.out.bE J 2 _).bE J 0 _).bE J 1 _).bE J 2 _).mono J⟩
 ·have HX2:=X2;have QE:=Y2;obtain ⟨VA,fHX2_0,kHX2_1,fHX2_1,kHX2_2,fHX2_2⟩:=Tf HX2;clear HX2 QE X2 Y2;go_wp2;refine bodyPost_ret (v:=.agg #[.string s1,.int .i64 (1+r),.slice none 0 0]) (by simp [results,Tryz.results216,go_sem, *]) rfl ?_;exact ⟨⟨s1,1+r,[]⟩,none,0,[],rfl,am.My (am.dy (Sl.nil _ none 0 (Nat.zero_le _))) (len8 cJ) hI,(by show s1.size+0≤35;omega),(((i6.out.bE ap 0 _).bE ap 1 _).bE ap 2 _),((U2.out.new (Nat.le_refl _) 0 _).new (Nat.le_refl _) 1 _).new (Nat.le_refl _) 2 _,.inl ⟨rfl,rfl⟩⟩
theorem aEe (w:World) (c:Nat) (A:Option Addr) (n aL:Nat) (h:cr w c A n aL) :
 Calls Tryz.prog 216 #[.pointer (some ⟨c,0,none⟩)] w fun e w'=>∃(x:ba) (A':Option Addr) (c':Nat) (G:List Nat),e = .returned (.agg #[.string x.key,.int .i64 x.op,.slice A' x.values.length c'])∧am w' w.heap.size x [.string x.key,.int .i64 x.op,.slice A' x.values.length c'] G∧x.wt≤35∧cr w' c A n aL∧nN [c] w w' :=
 (aEd w c A n aL h).mono fun _ _ ⟨xs,A',c',G,a,b,d,e,f,_⟩=>⟨xs,A',c',G,a,b,d,e,f⟩
theorem aAj {xs:List ba} (h:(jt xs).2 = true):lI (jt xs).1 = true:=by
 unfold jt at h ⊢;split
 ·rename_i h2;exact h2.2.2
 ·rename_i h2;rw [if_neg h2] at h;cases h
theorem aDe (w:World) (c:Nat) (A:Option Addr) (n aL:Nat) (h:cr w c A n aL) :
 Calls Tryz.prog 192 #[.pointer (some ⟨c,0,none⟩)] w fun e w'=>∃(xs:List ba) (A':Option Addr) (c':Nat) (G:List Nat),e = .returned (.slice A' xs.length c')∧am w' w.heap.size xs [.slice A' xs.length c'] G∧kL ba.wt xs≤460∧cr w' c A n aL∧nN [c] w w'∧eI w' w.heap.size 89 3 A' c':=by
 have ap:=h.lt;have HC:=I h;clear h;go_enter Tryz.func192,Tryz.ntmps192;go_wp2_with fail
 go_loopw [3,4] (fun v i wr=>∃(xs:List ba) (A':Option Addr) (c':Nat) (G:List Nat) (k:Nat),v = .slice A' xs.length c'∧i = .int .i64 k∧(k:Int)≤2∧am wr w.heap.size xs [.slice A' xs.length c'] G∧Hid (kL ba.wt xs≤460)∧cr wr c A n aL∧nN [c] w wr∧Hid (eI wr w.heap.size 89 3 A' c')) (fun _ i _=>2 - (intOf i).toNat)
 case atStart =>obtain ⟨A',c',G,hv,hO⟩:=am.oJ (α:=ba) (D9 w 89 3 w.heap.size rfl) (aY.nil _ _) (fun g _ hm=>by cases hm);simp only [Value.slice.injEq,List.length_nil] at hv;obtain ⟨rfl,_,rfl⟩:=hv;exact ⟨[],_,_,G,0,rfl,rfl,J,hO,I (Nat.zero_le _),HC.out.ext (ak (aj _) _),nN.lq _ (ak (aj _) _),I (eI.oJ (D9 w 89 3 w.heap.size rfl) (Nat.le_refl _))⟩
 case round =>
  obtain ⟨xs,A',c',G,k,rfl,rfl,hk,hO,Du,hcur,hur,lz⟩:=hrel;have HO:=I hO;have sf:=I hcur;have sg:=I hur;have ot:=hur.size;have Qy:(xs.length:Int)≤460:=by have h1:=gJ ba.wt xs;have:=Du.out;omega
  clear hO hcur hur;go_wp2_with fail
  refine (lO 3 J _ c A n aL sf.out).mono ?_;rintro e w1 ⟨r,rfl,hr,H1,hu1⟩;have gH:=I (HO.out.drawn hu1 ap);have py:=I (sg.out.trans hu1);have pA:=I (lz.out.drawn hu1 ap);have cQ:=hu1.size;have fN:=I H1;clear H1 hu1 HO sf sg lz;by_cases hkr:(k:Int) < r
  ·have si:=I gH.out.lt;have vc:=I pA.out.lt;have da:=fN.out.lt;have MD:=I (show ∀l∈xs,l.wt≤460 from fun l hl=>by have h1:=Bq (f:=ba.wt) hl;have:=Du.out;omega);go_wp2_with fail
   refine (ayq xs A' c' G w1 gH.out.rd J (fun l hl=>by have h1:=MD.out l hl;have h2:l.wt = l.key.size+kL ByteArray.size l.values:=rfl;have h3:=gJ ByteArray.size l.values;omega)).mono ?_;rintro e w2 ⟨v2,ds,F2,rfl,hrow2,kg,uc,av⟩;obtain ⟨A2,c2,eE⟩:=mY hrow2;subst eE;have HLR:=I (fun g hg=>(hrow2.lt g hg).2);have gr:=I kg.lt;have sj:=I hrow2;have CF:=I kg;have ME:=I uc;have i6:=I (fN.out.ext av);have RZ:=I (gH.out.ext av);have CC:=I (pA.out.ext av);have mI:=I (py.out.oT av J);have cD:=av.size;clear hrow2 kg uc av;go_wp2_with fail
   refine (aEe w2 c A n aL i6.out).mono ?_;rintro e w3 ⟨y,Ay,cy,Gy,rfl,Ei,hwy,H3,b8⟩;have gc:=I H3;have oD:=rQ sj.out b8 (show c < w1.heap.size by omega);have MG:=I (CF.out.br (w':=w3) (fun b hb=>b8.block b (gr.out b hb) (fun hm=>by have:=CF.out.base b hb;rw [List.mem_singleton] at hm;omega)) b8.size);have Ek:=I Ei;have gz:=I (RZ.out.drawn b8 ap);have CD:=I (CC.out.drawn b8 ap);have nA:=I (mI.out.trans b8);have eK:=b8.size;have nB:w1.heap.size≤w3.heap.size:=J;clear H3 Ei i6 sj CF RZ mI b8
   go_wp2_with (
    at_builtin
    go_must (refine uf tB X _ _ X _ _ _ _ _ oD X [.string y.key,.int .i64 y.op,.slice Ay y.values.length cy] jS X eu J J nB ?_)
    intro v4 w4 ev mr Wy uR;go_must (obtain ⟨A4,c4,hv4⟩:=mY ev)
    go_must (subst hv4)
    go_must (have bO:Below w1.heap.size w3 w4:=lS oD mr (Below.refl _ _) nB))
   have dB:(xs++[y]).length = xs.length+1:=S';obtain ⟨rp,hne4⟩:=aY.PB oD MG.out ME.out Ek.out J HLR.out gr.out mr uR;obtain ⟨A5,c5,G5,fT,fH⟩:=am.oJ (α:=ba) (xs:=xs++[y]) Pq rp hne4;rw [dB] at fT;simp only [Value.slice.injEq,true_and] at fT;obtain ⟨rfl,rfl⟩:=fT
   have HS:=aJV (xs++[y]) A4 c4 G5 w4 fH.rd J (fun l hl=>by
    rcases List.mem_append.1 hl with hl | hl
    ·have:=MD.out l hl;omega
    ·rw [List.mem_singleton] at hl;subst hl;omega)
   rw [dB] at HS;have gS:=I (gc.out.aM bO J);have kB:=I (gz.out.Qx bO si.out);have GG:=I (CD.out.br fun g hg=>bO.block g (vc.out g hg));have nQ:=I (nA.out.oT bO J);have jN:=I (fun h=>aDL (aAj (xs:=xs++[y]) h));have PJ:=bO.size;clear fH rp hne4 ev mr bO oD gH py fN gc gz nA si Ek MG ME HLR gr MD uR;refine HS.mono ?_;clear HS;generalize jt (xs++[y]) = R at *;exact y8
  ·exact uk
theorem aDf (w:World) (c:Nat) (A:Option Addr) (n aL:Nat) (h:cr w c A n aL) :
 Calls Tryz.prog 192 #[.pointer (some ⟨c,0,none⟩)] w fun e w'=>∃(xs:List ba) (A':Option Addr) (c':Nat) (G:List Nat),e = .returned (.slice A' xs.length c')∧am w' w.heap.size xs [.slice A' xs.length c'] G∧kL ba.wt xs≤460∧cr w' c A n aL∧nN [c] w w' :=
 (aDe w c A n aL h).mono fun _ _ ⟨xs,A',c',G,a,b,d,e,f,_⟩=>⟨xs,A',c',G,a,b,d,e,f⟩
theorem am.xd {α β:Type} [bd α] [bd β] {w:World} {B:Nat} {x:α} {y:β} {c1 c2:List Value} {F1 F2:List Nat} (h1:am w B x c1 F1) (h2:am w B y c2 F2) (hd:∀b∈F1,b∉F2):am w B (x,y) (c1++c2) (F1++F2):=by
 exact zm
theorem am.aFY {w:World} {B:Nat} {x:aU} {Ah Ap:Option Addr} {nh ch np cp:Nat} {n p q f:Int} {G:List Nat} (h:am w B x [.slice Ah nh ch,.slice Ap np cp,.int .i64 n,.int .i64 p,.int .i64 q,.int .i64 f] G) :
 ∃Gh Gp,am w B x.Z [.slice Ah nh ch] Gh∧am w B x.O [.slice Ap np cp] Gp∧(∀y∈Gh,y∉Gp)∧(∀y∈Gh,y∈G)∧(∀y∈Gp,y∈G):=by
 obtain ⟨⟨c1,c2,F1,F2,e1,rfl,hh,d1,d2,G1,G2,e3,rfl,hp,g1,g2,H1,H2,e5,e6,⟨e7,e8,hn⟩,fW⟩,hnd,hb,fl⟩:=h;obtain ⟨A,c,rfl,_⟩:=jB hh;obtain ⟨A2,c2',rfl,_⟩:=jB hp;subst e7 e5 e3;simp only [List.cons_append,List.nil_append,List.cons.injEq] at e1;obtain ⟨ea,eb,_⟩:=e1;rw [List.nodup_append,List.nodup_append] at hnd;refine ⟨F1,G1,⟨by rw [ea];exact hh,hnd.1,fun y hy=>hb y (by simp [hy]),fun y hy=>fl y (by simp [hy])⟩,⟨by rw [eb];exact hp,hnd.2.1.1,fun y hy=>hb y (by simp [hy]),fun y hy=>fl y (by simp [hy])⟩,fun y hy lL=>hnd.2.2 y hy y (by simp [lL]) rfl,fun y hy=>by simp [hy],fun y hy=>by simp [hy]⟩
theorem am.aFZ {w:World} {B:Nat} {H:List az} {Q:List ai} {Ah Ap:Option Addr} {nh ch np cp:Nat} {n p q f:Int} {Gh Gp:List Nat} (h:am w B H [.slice Ah nh ch] Gh) (k:am w B Q [.slice Ap np cp] Gp) (hd:∀y∈Gh,y∉Gp) (hn:bi n) (hp:bi p) (hq:bi q) (hf:bi f) :
 am w B (⟨H,Q,n,⟨p,q,f⟩⟩:aU) [.slice Ah nh ch,.slice Ap np cp,.int .i64 n,.int .i64 p,.int .i64 q,.int .i64 f] (Gh++Gp):=by
 refine am.up (B':=B) (fun x:aU=>(x.Z,x.O,x.next,x.weights)) ?_ (Nat.le_refl _);have h5:am w B (⟨p,q,f⟩:rZ) ([.int .i64 p]++([.int .i64 q]++[.int .i64 f])) []:=by exact zA
 have h6:=am.cons (jL w n hn) h5;have h7:=am.xd h (am.xd k h6 (fun b _ hb=>by cases hb)) (fun b hb d9=>hd b hb (by simpa using d9));simpa using h7
theorem am.j7 {w:World} {B:Nat} {p:ai} {ck:List Value} {F:List Nat} (h:am w B p ck F) (s:ByteArray) (hs:s.size≤maxLen):am w B (⟨p.aS,s,p.seq⟩:ai) (ck.set 7 (.string s)) F:=by
 obtain ⟨⟨c1,c2,F1,F2,rfl,rfl,QS,c3,c4,F3,F4,rfl,rfl,⟨rfl,rfl,eO⟩,⟨rfl,rfl,Ue⟩⟩,hnd,hb,fl⟩:=h;have hl:c1.length = 7:=bd.len QS;have e:(c1++([Value.string p.on]++[Value.int .i64 p.seq])).set 7 (.string s) = c1++([.string s]++[.int .i64 p.seq]):=by rw [List.set_append_right _ _ J,hl];rfl
 rw [e];exact ⟨⟨c1,_,F1,_,rfl,rfl,QS,_,_,_,_,rfl,rfl,⟨rfl,rfl,hs⟩,⟨rfl,rfl,Ue⟩⟩,hnd,hb,fl⟩
def Cr (x:aU) (k:Nat) (q:ai):aU × ByteArray × Int :=
 if q.on.size = 0 then (if wZ x q.aS = true then (⟨x.Z,x.O.set k ⟨q.aS,nx x q.aS,q.seq⟩,x.next,x.weights⟩,nx x q.aS,0) else (x,⟨#[]⟩,6)) else (x,⟨#[]⟩,5)
def kd (x:aU) (nm:ByteArray):aU × ByteArray × Int :=
 if iI x = true then (match x.O[(pK (CG nm) x.O).toNat]? with
   | some q=>if pK (CG nm) x.O < 0 then (x,⟨#[]⟩,3) else Cr x (pK (CG nm) x.O).toNat q
   | none=>(x,⟨#[]⟩,3))
 else (x,⟨#[]⟩,1)
theorem azY {x:aU} {nm:ByteArray} (h:iI x = false):kd x nm = (x,⟨#[]⟩,1):=by unfold kd;rw [h];rfl
theorem aJ3 {x:aU} {nm:ByteArray} (h:iI x = true) (hn:pK (CG nm) x.O < 0):kd x nm = (x,⟨#[]⟩,3):=by
 unfold kd;rw [if_pos h];split
 ·exact if_pos hn
 ·rfl
theorem aw9 {x:aU} {nm:ByteArray} {k:Nat} (h:iI x = true) (eZ:pK (CG nm) x.O = k) (hk:k < x.O.length):kd x nm = Cr x k x.O[k]:=by
 unfold kd;rw [if_pos h,eZ,Int.toNat_natCast,List.getElem?_eq_getElem hk];exact if_neg J
theorem aCF (x:aU) (p:nI) (hw:(x.wt:Int)≤1048576):((nx x p).size:Int)≤1048576:=by
 unfold nx;cases h:Jh x p with
 | nil=>exact (by decide:((⟨#[]⟩:ByteArray).size:Int)≤1048576)
 | cons y l =>
   have hm:y∈Jh x p:=(by rw [h];simp);unfold Jh at hm;rcases UX _ _ hm with h1 | h1
   ·cases h1
   ·unfold Ar at h1;obtain ⟨z,hz,rfl⟩:=List.mem_map.1 h1;have h2:=Bq (f:=az.wt) (List.mem_filter.1 hz).1;have h3:az.wt z = z.name.size+kL ao.wt z.labels+kL iU.wt z.aT:=rfl;have h4:x.wt = kL az.wt x.Z+kL ai.wt x.O:=rfl;show ((z.name).size:Int)≤_;omega
def vd (x:aU) (nm:ByteArray):Bool:=(kd x nm).2.2 == 0
def BX (x:aU):aU × ByteArray × ByteArray × Int :=
 if iI x = true then
   (match (GI x.O).find? (vd x) with
   | some nm=>((kd x nm).1,nm,(kd x nm).2.1,0)
   | none=>(x,⟨#[]⟩,⟨#[]⟩,if (GI x.O).length = 0 then 7 else 6))
 else (x,⟨#[]⟩,⟨#[]⟩,1)
theorem aJ4 {x:aU} (h:iI x = false):BX x = (x,⟨#[]⟩,⟨#[]⟩,1):=by unfold BX;rw [h];rfl
theorem aJi {x:aU} (hc:iI x = true) {k:Nat} (hk:k < (GI x.O).length) (hb:∀j (hj:j < (GI x.O).length),j < k→vd x (GI x.O)[j] = false) (h:vd x (GI x.O)[k] = true):BX x = ((kd x (GI x.O)[k]).1,(GI x.O)[k],(kd x (GI x.O)[k]).2.1,0):=by
 have e:(GI x.O).find? (vd x) = some (GI x.O)[k]:=List.find?_eq_some_iff_getElem.2 ⟨h,k,hk,rfl,fun j hj=>by rw [hb j J hj];rfl⟩;unfold BX;rw [if_pos hc,e]
theorem aIp {x:aU} (hc:iI x = true) (hb:∀j (hj:j < (GI x.O).length),vd x (GI x.O)[j] = false):BX x = (x,⟨#[]⟩,⟨#[]⟩,if (GI x.O).length = 0 then 7 else 6):=by
 have e:(GI x.O).find? (vd x) = none:=List.find?_eq_none.2 fun y hy=>by
  obtain ⟨j,hj,rfl⟩:=List.getElem_of_mem hy;rw [hb j hj];simp
 unfold BX;rw [if_pos hc,e]
theorem azU {P:Program} {l:List Oper} {C:World→Prop} {Q:Exit→Act→World→Prop} {id:Nat} {a:Act} {w:World} (n:Nat) (hm:P.follows .mixedOrders = true) (hn:l.toArray.size = n) (hw:C w.drew)
 (h:mn P l Q C n (Array.replicate n false) a w.drew):(Code.region id l.toArray true).wp P Q a w:=by
 subst hn;exact wp_region_held_drew (S:=C) hm hw fun _=>h
theorem Ex {α:Type} [bd α] {w:World} {B c i:Nat} {u:Value} {x:α} {cs:List Value} {F:List Nat} (h:am w B x cs F) (hF:∀y∈F,y≠c):am (w.setCell ⟨c,i,none⟩ u) B x cs F :=
 h.br (fun y hy=>Below.heap_setCell _ _ _ _ AM) fd
theorem Ox (x:az) (cs:List Value) (F:List Nat) (w:World) (h:rd w x cs F) (hw:(x.wt:Int)≤1048576) :
 Calls Tryz.prog 188 #[.agg cs.toArray] w fun e w'=>∃ds G,e = .returned (.tuple #[.agg ds.toArray,.bool (bf x).2])∧am w' w.heap.size (bf x).1 ds G∧Below w.heap.size w w':=by
 have h0:=h;obtain ⟨gu,gy,jw,kJ,kK,qU,aw,qp,hname,dO,vg,cb,uI,jq⟩:=iy h;subst aw;clear qp h;have HX:=I h0;have Du:=I hw;clear h0;have fS:x.wt = x.name.size+kL ao.wt x.labels+kL iU.wt x.aT:=rfl;have fb:(x.labels.length:Int)≤1048576:=by have:=gJ ao.wt x.labels;omega
 have dx:(x.aT.length:Int)≤1048576:=by have:=gJ iU.wt x.aT;omega
 have nt:∀l∈x.labels,(l.key.size:Int)≤1048576∧(l.value.size:Int)≤1048576:=fun l hl=>by have h9:=Bq (f:=ao.wt) hl;have h8:ao.wt l = l.key.size+l.value.size:=rfl;omega
 have o0:∀l∈x.aT,(l.key.size:Int)≤1048576∧(l.value.size:Int)≤1048576:=fun l hl=>by have h9:=Bq (f:=iU.wt) hl;have h8:iU.wt l = l.key.size+l.value.size:=rfl;omega
 have S0:pL w (((w.alloc (.cells #[.string x.name,.slice gu x.labels.length gy,.int .i64 x.ax,.int .i64 x.mem,.int .i64 x.ar,.slice kJ x.aT.length kK] 38)).alloc (.cells #[.string ⟨#[]⟩,.slice none 0 0,.int .i64 0,.int .i64 0,.int .i64 0,.slice none 0 0] 38)).alloc (.cells #[.string x.name,.slice gu x.labels.length gy,.int .i64 x.ax,.int .i64 x.mem,.int .i64 x.ar,.slice kJ x.aT.length kK] 38)) [.string x.name,.slice gu x.labels.length gy,.int .i64 x.ax,.int .i64 x.mem,.int .i64 x.ar,.slice kJ x.aT.length kK] [.string ⟨#[]⟩,.slice none 0 0,.int .i64 0,.int .i64 0,.int .i64 0,.slice none 0 0] [.string x.name,.slice gu x.labels.length gy,.int .i64 x.ax,.int .i64 x.mem,.int .i64 x.ar,.slice kJ x.aT.length kK]:=pL.new w _ _ _ 38 38 38;obtain ⟨v0,ra⟩:∃v0,(((w.alloc (.cells #[.string x.name,.slice gu x.labels.length gy,.int .i64 x.ax,.int .i64 x.mem,.int .i64 x.ar,.slice kJ x.aT.length kK] 38)).alloc (.cells #[.string ⟨#[]⟩,.slice none 0 0,.int .i64 0,.int .i64 0,.int .i64 0,.slice none 0 0] 38)).alloc (.cells #[.string x.name,.slice gu x.labels.length gy,.int .i64 x.ax,.int .i64 x.mem,.int .i64 x.ar,.slice kJ x.aT.length kK] 38)) = v0:=⟨_,rfl⟩;rw [ra] at S0;have qk:=I ra;have i1:=S0.bw.cell (i:=1) (u:=.slice gu x.labels.length gy) rfl;have j1:=S0.ob.lt;clear ra hw fS;go_enter Tryz.func188,Tryz.ntmps188;go_wp2_with fail
 rw [qk.out];clear qk;refine (aJR x.labels _ _ _ v0 (dO.ext S0.aM) fb nt).mono ?_;obtain ⟨L1,b1,e1⟩:∃L b,BG x.labels = (L,b):=⟨_,_,rfl⟩;rw [e1];have E1:=I e1;clear e1 i1;rintro e w1 ⟨A1,c1,G1,rfl,jX,bk⟩;have T1:=S0.ext bk;replace jX:=jX.mono (B':=w.heap.size+1+1+1) J;obtain ⟨z1,cQ⟩:∃z,z = w1.heap.size:=⟨_,rfl⟩;have Bt:=I (show ∀b∈G1,b < z1 from fun b hb=>by rw [cQ];exact jX.lt b hb);have Tw:w.heap.size+1+1+1≤z1:=by have:=bk.size;omega
 clear bk;have i2:=T1.bw.cell (i:=5) (u:=.slice kJ x.aT.length kK) rfl;have j2:=T1.ob.lt;go_wp2_with fail
 clear S0;refine (ayM x.aT _ _ _ w1 (jq.ext T1.aM) dx o0).mono ?_;obtain ⟨L2,b2,e2⟩:∃L b,Fq x.aT = (L,b):=⟨_,_,rfl⟩;rw [e2];have E2:=I e2;clear e2 i2;rintro e w2 ⟨A2,c2,G2,rfl,bN,av⟩;have T2:=T1.ext av;replace bN:=bN.mono (B':=z1) (by have:=cQ;omega);replace jX:=jX.ext av;obtain ⟨z2,cD⟩:∃z,z = w2.heap.size:=⟨_,rfl⟩;have uS:=I (show ∀b∈G2,b < z2 from fun b hb=>by rw [cD];exact bN.lt b hb);have Tx:z1≤z2:=by have:=av.size;omega
 clear av;have k1:=T2.ob.cell (i:=1) (u:=.slice gu x.labels.length gy) rfl;have f1:=T2.ob.fz 1;have S1:=T2.put 1 (.slice A1 L1.length c1);replace jX:=jX.setCell (p:=⟨w.heap.size+1+1,1,none⟩) bz (.slice A1 L1.length c1);replace bN:=bN.setCell (p:=⟨w.heap.size+1+1,1,none⟩) bz (.slice A1 L1.length c1);have k2:=T2.ob.cell (i:=5) (u:=.slice kJ x.aT.length kK) rfl;have f2:=T2.ob.fz 5;have S2:=S1.put 5 (.slice A2 L2.length c2);replace jX:=jX.setCell (p:=⟨w.heap.size+1+1,5,none⟩) bz (.slice A2 L2.length c2);replace bN:=bN.setCell (p:=⟨w.heap.size+1+1,5,none⟩) bz (.slice A2 L2.length c2);have l9:=T2.ob.lt;go_upto_region 6 with fail
 obtain ⟨v2,hv⟩:∃v,((w2.setCell ⟨w.heap.size+1+1,1,none⟩ (.slice A1 L1.length c1)).setCell ⟨w.heap.size+1+1,5,none⟩ (.slice A2 L2.length c2)) = v:=⟨_,rfl⟩;have hs:v2.heap.size = z2:=by rw [← hv,cD];simp [World.setCell]
 rw [hv] at S2 jX bN;try rw [hv]
 clear hv T2 k1 f1 k2 f2 l9 cD;have cD:=hs;clear hs
 have fZ:=I (show am v2 (w.heap.size+1+1+1) (⟨x.name,L1,x.ax,x.mem,x.ar,L2⟩:az) [.string x.name,.slice A1 L1.length c1,.int .i64 x.ax,.int .i64 x.mem,.int .i64 x.ar,.slice A2 L2.length c2] (G1++G2) from by
  refine am.up (B':=w.heap.size+1+1+1) (fun x:az=>(x.name,x.labels,x.ax,x.mem,x.ar,x.aT)) ?_ (Nat.le_refl _);refine am.cons (c1:=[.string x.name]) (cV _ x.name (rV hname)) ?_;refine am.b9 (B2:=z1) (c1:=[.slice A1 L1.length c1]) (F1:=G1) jX ?_ J Bt.out;refine am.cons (c1:=[.int .i64 x.ax]) (jL _ x.ax vg) ?_;refine am.cons (c1:=[.int .i64 x.mem]) (jL _ x.mem cb) ?_;refine am.cons (c1:=[.int .i64 x.ar]) (jL _ x.ar uI) ?_
  exact bN)
 have HN:=I (show rn x = ⟨x.name,L1,x.ax,x.mem,x.ar,L2⟩ by unfold rn;rw [E1.out,E2.out]);have HR:=I (show bf x = if b1 = true∧b2 = true∧Aj (rn x) = true then (rn x,true) else (x,false) by unfold bf;rw [E1.out,E2.out]);have HS:=I S2;have ZP:=I (show ((rn x).wt:Int)≤1048576 by have:=aCl x;have:=Du.out;omega);clear jX bN S2;have q_:=HS.out.ob.lt;obtain ⟨p0,p1,p2,p3,p4,p5⟩:=cM HS.out.bw;cases b1 with
 | false =>have nL:=I (show bf x = (x,false) by rw [HR.out];exact if_neg (by rintro ⟨hh,_⟩;cases hh));exact GP
 | true =>
   cases b2 with
   | false =>have nL:=I (show bf x = (x,false) by rw [HR.out];exact if_neg (by rintro ⟨_,hh,_⟩;cases hh));exact GP
   | true =>
     have HYN:=HN;cases hr:Aj (rn x) with
     | false =>
       have jN:=I hr;obtain ⟨q0,q1,q2,q3,q4,q5⟩:=cM HS.out.ob;go_wp2_with fail
       refine (tZ (⟨x.name,L1,x.ax,x.mem,x.ar,L2⟩:az) _ _ v2 fZ.out.rd Pr).mono ?_;rw [← HN.out,jN.out];rintro e w7 ⟨rfl,bF⟩;have ie:=I (HS.out.ext bF);have OY:=I (fZ.out.ext bF);clear p0 p1 p2 p3 p4 p5 q0 q1 q2 q3 q4 q5 q_ bF;have nL:=I (show bf x = (x,false) by rw [HR.out];exact if_neg (by rintro ⟨_,_,hh⟩;rw [jN.out] at hh;cases hh));have rr:=ie.out.bw.lt;obtain ⟨p0,p1,p2,p3,p4,p5⟩:=cM ie.out.bw;go_wp2_with fail
       refine (RE x _ _ w7 (Oo HX.out ie.out.aM) fb dx).mono ?_;rintro e w8 ⟨Rv,G8,rfl,sV,iN⟩;have T8:=ie.out.ext iN;have SY:=sV;obtain ⟨qh,aHA,aJp,aIQ,aIR,aCm,ayd,hF9,aye,aJq,aAR,aAS,aDQ,aCn⟩:=iy sV.rd;subst ayd;clear hF9 sV;obtain ⟨r0,r1,r2,r3,r4,r5⟩:=cM T8.rb;have rf:=T8.rb.fz;have rl:=T8.rb.lt;have mR:=I SY;have DP:=I T8;have Ry:w.heap.size+1 < w7.heap.size:=ie.out.rb.lt;clear SY T8 iN;go_wp2_with fail
       try dsimp only
       iterate 60 (first | go_step | skip)
       refine bodyPost_ret (v:=.tuple #[.agg #[.string x.name,.slice qh x.labels.length aHA,.int .i64 x.ax,.int .i64 x.mem,.int .i64 x.ar,.slice aIQ x.aT.length aIR],.bool false]) (by simp [results,Tryz.results188,go_sem, *]) rfl ⟨[.string x.name,.slice qh x.labels.length aHA,.int .i64 x.ax,.int .i64 x.mem,.int .i64 x.ar,.slice aIQ x.aT.length aIR],G8,by rw [nL.out];try rfl,?_,?_⟩
       ·rw [nL.out];refine am.mono (B:=w7.heap.size) ?_ J;exact DQ
       ·exact Ow
     | true =>
       have jN:=I hr;obtain ⟨q0,q1,q2,q3,q4,q5⟩:=cM HS.out.ob;go_wp2_with fail
       refine (tZ (⟨x.name,L1,x.ax,x.mem,x.ar,L2⟩:az) _ _ v2 fZ.out.rd Pr).mono ?_;rw [← HN.out,jN.out];rintro e w7 ⟨rfl,bF⟩;have ie:=I (HS.out.ext bF);have OY:=I (fZ.out.ext bF);clear p0 p1 p2 p3 p4 p5 q0 q1 q2 q3 q4 q5 q_ bF;have zr:=I (show bf x = (rn x,true) by rw [HR.out];exact if_pos (by simp [jN.out]));obtain ⟨q0,q1,q2,q3,q4,q5⟩:=cM ie.out.ob;obtain ⟨r0,r1,r2,r3,r4,r5⟩:=cM ie.out.rb;have rf:=ie.out.rb.fz;have rl:=ie.out.rb.lt;have ql:=ie.out.ob.lt;go_wp2_with fail
       try dsimp only
       iterate 60 (first | go_step | skip)
       refine bodyPost_ret (v:=.tuple #[.agg #[.string x.name,.slice A1 L1.length c1,.int .i64 x.ax,.int .i64 x.mem,.int .i64 x.ar,.slice A2 L2.length c2],.bool true]) (by simp [results,Tryz.results188,go_sem, *]) rfl ⟨[.string x.name,.slice A1 L1.length c1,.int .i64 x.ax,.int .i64 x.mem,.int .i64 x.ar,.slice A2 L2.length c2],G1++G2,by rw [zr.out];try rfl,?_,?_⟩
       ·exact IS
       ·exact (by repeat (first | with_reducible exact ie.out.aM | with_reducible refine aC ?_ bz _))
end Go.Proofs.YtjahcnjmjahbaaaGreat
