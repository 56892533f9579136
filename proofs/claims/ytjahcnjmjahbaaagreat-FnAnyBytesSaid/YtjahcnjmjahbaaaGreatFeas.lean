/- Feasible, of the program and of the reference. No condition. -/
import Derived.Test.YtjahcnjmjahbaaaGreatMarksP
import Derived.Test.YtjahcnjmjahbaaaGreatPodOk
namespace Go.Proofs.YtjahcnjmjahbaaaGreat
open Go.ChangeShapes Go.WideShapes Go.ChangeAt Go.RowKit
set_option linter.unusedVariables false
set_option linter.unusedSimpArgs false
set_option maxHeartbeats 4000000
set_option maxRecDepth 100000
def Qf (x:aU) (p:nI) (h:az):Bool:=oH h.name x p == 0
def Ar (x:aU) (p:nI) (hs:List az):List ByteArray:=(hs.filter (Qf x p)).map az.name
theorem YM {x:aU} {p:nI} {hs:List az} {k:Nat} (h:k < hs.length) (hp:Qf x p hs[k] = true):Ar x p (hs.take (k+1)) = Ar x p (hs.take k)++[hs[k].name]:=by
 unfold Ar;rw [List.take_succ_eq_append_getElem h,List.filter_append,List.map_append];simp [hp]
theorem abE {x:aU} {p:nI} {hs:List az} {k:Nat} (h:k < hs.length) (hp:Qf x p hs[k] = false):Ar x p (hs.take (k+1)) = Ar x p (hs.take k):=by
 unfold Ar;rw [List.take_succ_eq_append_getElem h,List.filter_append,List.map_append];simp [hp]
theorem LY (x:aU) (p:nI) (hs:List az):(Ar x p hs).length<=hs.length:=by unfold Ar;rw [List.length_map];exact List.length_filter_le _ _
theorem afG (x:aU) (p:nI) (hs:List az) (k:Nat):(Ar x p (hs.take k)).length<=k:=Nat.le_trans (LY _ _ _) Wq
theorem aY.Zw {w:World} {B:Nat} {xs:List ByteArray} {ds:List Value} {s:ByteArray} (h:aY w B xs ds []) (hs:(s.size:Int)<=9223372036854775807):aY w B (xs++[s]) (ds++[.string s]) [] :=
 ⟨h.rd.append (.single (rdStr w s hs)),List.nodup_nil,(λb hb=>by cases hb),(λb hb=>by cases hb)⟩
theorem Zv (x:aU) (p:nI) (cs ps:List Value) (F G:List Nat) (w:World) (h:rd w x cs F) (h':rd w p ps G) (hw:(x.wt:Int)<=1048576) (ic:(p.wt:Int)<=1048576) :
 Calls Tryz.prog 101 #[.agg cs.toArray,.agg ps.toArray] w λe w'=>∃A c G,e = .returned (.slice A (Ar x p x.aa).length c)/\ai w' w.heap.size (Ar x p x.aa) [.slice A (Ar x p x.aa).length c] G/\Below w.heap.size w w':=by
 have fv:x.wt = kL az.wt x.aa+kL ag.wt x.O:=rfl;have cA:(x.aa.length:Int)<=1048576:=by have:=gJ az.wt x.aa;omega
 have HW:=I hw;have Uc:=I ic;clear hw ic fv;have hr:=h;have cJ:=h';obtain ⟨bG,bD,fQ,dn,bW,jg,aq,hF,bQ,dM,hnext,aV,aP,aW⟩:=aO hr;obtain ⟨bY,bZ,iq,eU,eX,jV,bg,bn,dK,jU,hG,jW,dA,kQ,lg,lG,iO,bK⟩:=dL cJ;subst aq jU;clear hF hG hr cJ;go_enter Tryz.func101,Tryz.ntmps101;go_wp2_with fail
 obtain ⟨w0,hw0⟩:∃w0,(w.alloc (.cells #[.slice bG x.aa.length bD,.slice dn x.O.length bW,.int .i64 x.next,.int .i64 x.weights.pack,.int .i64 x.weights.spread,.int .i64 x.weights.soft] 29)).alloc (.cells #[.string p.name,.slice bY p.labels.length bZ,.int .i64 p.aw,.int .i64 p.mem,.int .i64 p.av,.slice eU p.af.length eX,.slice bg p.ae.length bn] 46) = w0:=⟨_,rfl⟩;try rw [hw0]
 have c0:w0.cell? ⟨w.heap.size,0,none⟩ = some (.slice bG x.aa.length bD):=by rw [<- hw0,World.cell?_of_block (heap_alloc_old _ _ S'),cell_of_row _ _ _ _ _ _ (heap_alloc_new w _)];rfl
 have c1:w0.cell? ⟨w.heap.size,1,none⟩ = some (.slice dn x.O.length bW):=by rw [<- hw0,World.cell?_of_block (heap_alloc_old _ _ S'),cell_of_row _ _ _ _ _ _ (heap_alloc_new w _)];rfl
 have c2:w0.cell? ⟨w.heap.size,2,none⟩ = some (.int .i64 x.next):=by rw [<- hw0,World.cell?_of_block (heap_alloc_old _ _ S'),cell_of_row _ _ _ _ _ _ (heap_alloc_new w _)];rfl
 have c3:w0.cell? ⟨w.heap.size,3,none⟩ = some (.int .i64 x.weights.pack):=by rw [<- hw0,World.cell?_of_block (heap_alloc_old _ _ S'),cell_of_row _ _ _ _ _ _ (heap_alloc_new w _)];rfl
 have c4:w0.cell? ⟨w.heap.size,4,none⟩ = some (.int .i64 x.weights.spread):=by rw [<- hw0,World.cell?_of_block (heap_alloc_old _ _ S'),cell_of_row _ _ _ _ _ _ (heap_alloc_new w _)];rfl
 have c5:w0.cell? ⟨w.heap.size,5,none⟩ = some (.int .i64 x.weights.soft):=by rw [<- hw0,World.cell?_of_block (heap_alloc_old _ _ S'),cell_of_row _ _ _ _ _ _ (heap_alloc_new w _)];rfl
 have d0:w0.cell? ⟨w.heap.size+1,0,none⟩ = some (.string p.name):=by rw [<- hw0];simp
 have d1:w0.cell? ⟨w.heap.size+1,1,none⟩ = some (.slice bY p.labels.length bZ):=by rw [<- hw0];simp
 have d2:w0.cell? ⟨w.heap.size+1,2,none⟩ = some (.int .i64 p.aw):=by rw [<- hw0];simp
 have d3:w0.cell? ⟨w.heap.size+1,3,none⟩ = some (.int .i64 p.mem):=by rw [<- hw0];simp
 have d4:w0.cell? ⟨w.heap.size+1,4,none⟩ = some (.int .i64 p.av):=by rw [<- hw0];simp
 have d5:w0.cell? ⟨w.heap.size+1,5,none⟩ = some (.slice eU p.af.length eX):=by rw [<- hw0];simp
 have d6:w0.cell? ⟨w.heap.size+1,6,none⟩ = some (.slice bg p.ae.length bn):=by rw [<- hw0];simp
 have kd:Below w.heap.size w w0:=by rw [<- hw0];exact ak (ak (aj _) _) _
 have jx:w0.heap.size = w.heap.size+1+1:=by rw [<- hw0];simp
 have cb:w.heap.size < w0.heap.size:=by omega
 have cG:w.heap.size+1 < w0.heap.size:=by omega
 have HS0:=I jx;clear hw0 jx;go_loopw [5,6] (λv i wr=>∃(k:Nat) (ds:List Value),k<=x.aa.length/\i = .int .i64 k/\wr.ownsRow w0.heap.size 9 1 v (Ar x p (x.aa.take k)).length ds/\aY w w0.heap.size (Ar x p (x.aa.take k)) ds []/\Below w0.heap.size w0 wr) (λ_ i _=>x.aa.length - (intOf i).toNat)
 case atStart =>refine ⟨0,[],Nat.zero_le _,rfl,?_,aY.nil _ _,ak (aj _) _⟩;rw [<- HS0.out];have:=World.ownsRow_made (base:=w0.heap.size) (e:=9) (size:=1) w0 #[] 0 S' jp rfl;simpa [Ar] using this
 case round =>
  obtain ⟨k,ds,hk,rfl,ar,bS,ax⟩:=hrel;by_cases am:k < x.aa.length
  ·obtain ⟨b,o,ck,Fk,rfl,o9,hbs,hr,bm,hc⟩:=Sl.get (α:=az) (A:=bG) (c:=bD) bQ am;obtain ⟨jM,jO,sN,jE,jF,sO,aq,su,zM,qY,Gt,Gw,xg,qA⟩:=iy hr;subst aq;obtain ⟨q0,q1,q2,q3,q4,q5⟩:=mN 6 hc;clear hc;have bu:Below w.heap.size w wr:=ah kd (ax.mono J);replace q0:=r' bu q0 hbs;replace q1:=r' bu q1 hbs;replace q2:=r' bu q2 hbs;replace q3:=r' bu q3 hbs;replace q4:=r' bu q4 hbs;replace q5:=r' bu q5 hbs;have WU:b < wr.heap.size:=(by have:=bu.size;omega);have hK:=(ay ax).1;replace c0:=(hK _ _ cb).trans c0;replace c1:=(hK _ _ cb).trans c1;replace c2:=(hK _ _ cb).trans c2;replace c3:=(hK _ _ cb).trans c3;replace c4:=(hK _ _ cb).trans c4;replace c5:=(hK _ _ cb).trans c5;replace d0:=(hK _ _ cG).trans d0;replace d1:=(hK _ _ cG).trans d1;replace d2:=(hK _ _ cG).trans d2;replace d3:=(hK _ _ cG).trans d3;replace d4:=(hK _ _ cG).trans d4;replace d5:=(hK _ _ cG).trans d5;replace d6:=(hK _ _ cG).trans d6;clear hK;have tX:w.heap.size < wr.heap.size:=(by have:=ax.size;omega);have Qg:w.heap.size+1 < wr.heap.size:=(by have:=ax.size;omega);have Iv:(Ar x p (x.aa.take k)).length<=k:=afG x p x.aa k;cases hp:Qf x p x.aa[k] with
   | true =>
     have HP:=I hp;have Tc:=I (show (oH x.aa[k].name x p == 0) = true from hp);clear hp;go_wp2_with fail
     first
      | (refine (Oa x p _ _ _ _ x.aa[k].name _ (aJ h Tj) (aJ h' Tj) HW.out Uc.out).mono ?_
         rw [Tc.out]
         rintro e wn ⟨rfl,hn⟩)
      | (refine aF _ U' U' (aj _) ?_
         repeat ((first | refine aG J' ?_ | refine aH _ J' L6 ?_);simp only [Act.put,pz])
         refine aN ?_;intro wn hn
         replace hn:=hn.out)
     obtain ⟨km,ly⟩:=ay hn
     first
      | have kn:wr.heap.size < wn.heap.size:=(sq hn.size)
      | have kn:wr.heap.size<=wn.heap.size:=(sq hn.size)
     have bw:Below w0.heap.size w0 wn:=(by first | exact ah ax hn | exact ah (ak ax _) hn);first | have zq:=mG ar hn | have zq:=mG (ar.alloc _) hn
     go_wp2_with (
      at_builtin
      go_must (refine lC qw J' _ _ J' _ _ _ _ _ zq J' [.string x.aa[k].name] gn J' dv J J awN ?_)
      intro v2 w2 bR eE cr)
     have ap:Below w0.heap.size w0 w2:=lS (B:=w0.heap.size) zq eE bw (by have:=bw.size;omega);exact ⟨⟨k+1,_,J,N',(by rw [YM am HP.out,List.length_append];exact bR),(by rw [YM am HP.out];exact bS.Zw (rV zM)),ap⟩,by simp [intOf];omega⟩
   | false =>
     have HP:=I hp;have Tc:=I (show (oH x.aa[k].name x p == 0) = false from hp);clear hp;go_wp2_with fail
     first
      | (refine (Oa x p _ _ _ _ x.aa[k].name _ (aJ h Tj) (aJ h' Tj) HW.out Uc.out).mono ?_
         rw [Tc.out]
         rintro e wn ⟨rfl,hn⟩)
      | (refine aF _ U' U' (aj _) ?_
         repeat ((first | refine aG J' ?_ | refine aH _ J' L6 ?_);simp only [Act.put,pz])
         refine aN ?_;intro wn hn
         replace hn:=hn.out)
     obtain ⟨km,ly⟩:=ay hn
     first
      | have kn:wr.heap.size < wn.heap.size:=(sq hn.size)
      | have kn:wr.heap.size<=wn.heap.size:=(sq hn.size)
     have bw:Below w0.heap.size w0 wn:=(by first | exact ah ax hn | exact ah (ak ax _) hn);first | have zq:=mG ar hn | have zq:=mG (ar.alloc _) hn
     go_wp2;exact ⟨⟨k+1,_,J,N',(by rw [abE am HP.out];exact zq),(by rw [abE am HP.out];exact bS),bw⟩,by simp [intOf];omega⟩
  ·have bs:k = x.aa.length:=J;subst bs;rw [List.take_length] at ar bS;have bu:Below w.heap.size w wr:=ah kd ax;obtain ⟨Al,cl,Gl,rfl,ox⟩:=ai.oJ ar ((aY.keep bS (λb hb=>by cases hb) bu.size)) (λ_ _ hb=>by cases hb);have Iv:=LY x p x.aa;clear ar bS;have hK:=(ay ax).1;replace c0:=(hK _ _ cb).trans c0;replace c1:=(hK _ _ cb).trans c1;replace c2:=(hK _ _ cb).trans c2;replace c3:=(hK _ _ cb).trans c3;replace c4:=(hK _ _ cb).trans c4;replace c5:=(hK _ _ cb).trans c5;replace d0:=(hK _ _ cG).trans d0;replace d1:=(hK _ _ cG).trans d1;replace d2:=(hK _ _ cG).trans d2;replace d3:=(hK _ _ cG).trans d3;replace d4:=(hK _ _ cG).trans d4;replace d5:=(hK _ _ cG).trans d5;replace d6:=(hK _ _ cG).trans d6;clear hK;go_wp2;go_ret
   exact ⟨Al,cl,Gl,rfl,ox.mono J,bu⟩
theorem ai3 (s:ByteArray) (b:Nat) (a:Int × Bool) (w:World) (h:yM w b s a) (hs:(s.size:Int)<=1048576) :
 Calls Tryz.prog 48 #[.pointer (some ⟨b,0,none⟩)] w λe w'=>∃ds F,e = .returned (.agg ds.toArray)/\ai w' w.heap.size (wF s a).1 ds F/\yM w' b s (wF s a).2/\nN [b] w w':=by
 have am:=h.lt;have oT:=xX s 4 (iZ s (iZ s (iZ s (jS s (aD s a).2).2).2).2).2 (by decide);have mb:=I (show wF s a = (⟨(aD s a).1,(jS s (aD s a).2).1,(iZ s (jS s (aD s a).2).2).1,(iZ s (iZ s (jS s (aD s a).2).2).2).1,(iZ s (iZ s (iZ s (jS s (aD s a).2).2).2).2).1,(bt (Je s) (lM s 4 (iZ s (iZ s (iZ s (jS s (aD s a).2).2).2).2).2).1.toNat [] (lM s 4 (iZ s (iZ s (iZ s (jS s (aD s a).2).2).2).2).2).2).1⟩,(bt (Je s) (lM s 4 (iZ s (iZ s (iZ s (jS s (aD s a).2).2).2).2).2).1.toNat [] (lM s 4 (iZ s (iZ s (iZ s (jS s (aD s a).2).2).2).2).2).2).2) from rfl);have HT:=I (λwq hq=>DJ s b a wq hq hs);have HL:=I (λwq hq=>Yc s b (aD s a).2 wq hq hs);have HC:=I (λwq hq=>Ae s b (jS s (aD s a).2).2 wq hq hs);have HM:=I (λwq hq=>Ae s b (iZ s (jS s (aD s a).2).2).2 wq hq hs);have HO:=I (λwq hq=>Ae s b (iZ s (iZ s (jS s (aD s a).2).2).2).2 wq hq hs);have HN:=I (λwq hq=>Gi s b 4 (iZ s (iZ s (iZ s (jS s (aD s a).2).2).2).2).2 wq hq hs);have dr:=nG s a hs;have qg:=BP s (aD s a).2;have cP:=I (Ej s (aD s a).2 hs);have ee:=Bj s (jS s (aD s a).2).2 hs;have Mb:=Bj s (iZ s (jS s (aD s a).2).2).2 hs;have Me:=Bj s (iZ s (iZ s (jS s (aD s a).2).2).2).2 hs;have H:=I h;clear h;generalize lM s 4 (iZ s (iZ s (iZ s (jS s (aD s a).2).2).2).2).2 = q at *;generalize iZ s (iZ s (iZ s (jS s (aD s a).2).2).2).2 = o at *;generalize iZ s (iZ s (jS s (aD s a).2).2).2 = m at *;generalize iZ s (jS s (aD s a).2).2 = c at *;generalize jS s (aD s a).2 = L at *;generalize aD s a = t1 at *;generalize hR:bt (Je s) q.1.toNat [] q.2 = R at mb;generalize wF s a = HW at mb |-;obtain ⟨N,hN⟩:∃N:Nat,q.1 = N:=⟨q.1.toNat,J⟩;rw [hN,Int.toNat_natCast] at hR;have nz:=I hR;have GG:N<=4:=by omega
 have MO:=I hN;clear hN oT hR;go_enter Tryz.func48,Tryz.ntmps48;go_wp2_with fail
 refine (HT.out _ (H.out.ext (ak (aj _) _))).mono ?_;rintro e w1 ⟨rfl,fY,hu1⟩;have cG:w.heap.size < w1.heap.size:=by have:=hu1.size;simp at this;omega
 have uk:=(oG.new w [.string ⟨#[]⟩,.slice none 0 0,.int .i64 0,.int .i64 0,.int .i64 0,.slice none 0 0] 38).bE hu1 J;have GH:nN [b] w w1:=((nN.refl _ _).alloc _).trans hu1
 have S1:iB [.string ⟨#[]⟩,.slice none 0 0,.int .i64 0,.int .i64 0,.int .i64 0,.slice none 0 0] w (w1.alloc (.cells #[.string t1.1,.slice none 0 0,.int .i64 0,.int .i64 0,.int .i64 0,.slice none 0 0] 38)) b w1.heap.size s t1.2 [.string t1.1,.slice none 0 0,.int .i64 0,.int .i64 0,.int .i64 0,.slice none 0 0] :=
  ⟨fY.ext (ak (aj _) _),GH.alloc _,oG.new w1 [.string t1.1,.slice none 0 0,.int .i64 0,.int .i64 0,.int .i64 0,.slice none 0 0] 38,uk.ext (ak (aj _) _),am,cG⟩
 clear fY hu1 uk;go_wp2_with fail
 refine (HL.out _ S1.bp).mono ?_;rintro e w2 ⟨A2,c2,G2,rfl,bA,dj,ca⟩;have S2:=S1.call dj ca;clear dj;replace bA:ai w2 (w1.heap.size+1) L.1 [.slice A2 L.1.length c2] G2:=bA.mono S';have uO:=bA.base;have k2:=S2.box.cell (i:=1) (u:=.slice none 0 0) rfl;have f2:=S2.box.fz 1;have l2:=S2.box.lt;have T2:=S2.put 1 (.slice A2 L.1.length c2);have O2:=bA.setCell (p:=⟨w1.heap.size,1,none⟩) kI (.slice A2 L.1.length c2);go_wp2_with fail
 refine (HC.out _ T2.bp).mono ?_;rintro e w3 ⟨rfl,TR,bJ⟩;have S3:=T2.call TR bJ;have O3:=bJ.own O2 (λy hy hb=>by have:=uO y hy;simp only [List.mem_singleton] at hb;omega);have k3:=S3.box.cell (i:=2) (u:=.int .i64 0) rfl;have f3:=S3.box.fz 2;have l3:=S3.box.lt;have T3:=S3.put 2 (.int .i64 c.1);have P3:=O3.setCell (p:=⟨w1.heap.size,2,none⟩) kI (.int .i64 c.1);go_wp2_with fail
 refine (HM.out _ T3.bp).mono ?_;rintro e w4 ⟨rfl,hI4,Td⟩;have S4:=T3.call hI4 Td;have O4:=Td.own P3 (λy hy hb=>by have:=uO y hy;simp only [List.mem_singleton] at hb;omega);have k4:=S4.box.cell (i:=3) (u:=.int .i64 0) rfl;have f4:=S4.box.fz 3;have l4:=S4.box.lt;have T4:=S4.put 3 (.int .i64 m.1);have P4:=O4.setCell (p:=⟨w1.heap.size,3,none⟩) kI (.int .i64 m.1);go_wp2_with fail
 refine (HO.out _ T4.bp).mono ?_;rintro e w5 ⟨rfl,lr,hu5⟩;have S5:=T4.call lr hu5;have O5:=hu5.own P4 (λy hy hb=>by have:=uO y hy;simp only [List.mem_singleton] at hb;omega);have k5:=S5.box.cell (i:=4) (u:=.int .i64 0) rfl;have f5:=S5.box.fz 4;have l5:=S5.box.lt;have T5:=S5.put 4 (.int .i64 o.1);have P5:=O5.setCell (p:=⟨w1.heap.size,4,none⟩) kI (.int .i64 o.1);go_wp2_with fail
 refine (HN.out _ T5.bp).mono ?_;rw [MO.out];rintro e w6 ⟨rfl,hI6,Ze⟩;have S6:=T5.call hI6 Ze;have O6:=Ze.own P5 (λy hy hb=>by have:=uO y hy;simp only [List.mem_singleton] at hb;omega);have Iw:=O6.lt;obtain ⟨B3,cT⟩:∃B3,w6.heap.size = B3:=⟨_,rfl⟩;have lh:w1.heap.size < B3:=by rw [<- cT];exact S6.box.lt
 rw [cT] at Iw;have ma:w6.ownsRow B3 84 3 (.slice none 0 0) 0 []:=⟨rfl,.inl ⟨rfl,rfl⟩⟩;have lE:=I cT;clear cT S1 S2 S3 S4 S5 T2 T3 T4 T5 bA O2 O3 P3 O4 P4 O5 P5 TR bJ hI4 Td lr hu5 hI6 Ze ca k2 f2 l2 k3 f3 l3 k4 f4 l4 k5 f5 l5;go_wp2_with fail
 go_loopw [5] (λi wr=>∃(j k:Nat) (xs:List iU) (ds:List Value) (za:Int × Bool) (v:Value),i = .int .i64 j/\j+k = N/\xs.length+k<=4/\Hid (bt (Je s) k xs za = R)/\Hid (∀l∈xs,(l.key.size:Int)<=1048576/\(l.value.size:Int)<=1048576)/\wr.ownsRow B3 84 3 v xs.length ds/\aY wr B3 xs ds []/\iB [.string ⟨#[]⟩,.slice none 0 0,.int .i64 0,.int .i64 0,.int .i64 0,.slice none 0 0] w wr b w1.heap.size s za [.string t1.1,.slice A2 L.1.length c2,.int .i64 c.1,.int .i64 m.1,.int .i64 o.1,v]/\ai wr (w1.heap.size+1) L.1 [.slice A2 L.1.length c2] G2/\B3<=wr.heap.size) (λi _=>N - (intOf i).toNat)
 case atStart=>exact ⟨0,N,[],[],q.2,.slice none 0 0,rfl,J,by simpa using GG,nz.out,(λl hl=>by cases hl),ma,aY.nil _ _,S6,O6,by have:=lE.out;omega⟩
 case round =>
  obtain ⟨j,k,xs,ds,za,v,rfl,fe,hk4,QY,Eo,ar,bS,hS,hO,bu⟩:=hrel;obtain ⟨a',bad⟩:=za;by_cases hd:k = 0∨bad = true
  ·have bI:(xs,(a',bad)) = R:=by
    have:=QY.out;exact M0
   obtain ⟨A6,c6,G6,rfl,hOT⟩:=ai.oJ ar bS (λ_ _ hb=>by cases hb);have Zm:ai wr (w1.heap.size+1) (⟨t1.1,L.1,c.1,m.1,o.1,xs⟩:az) [.string t1.1,.slice A2 L.1.length c2,.int .i64 c.1,.int .i64 m.1,.int .i64 o.1,.slice A6 xs.length c6] (G2++G6):=by exact Ma
   have HF:=I (show HW = ((⟨t1.1,L.1,c.1,m.1,o.1,xs⟩:az),(a',bad)) by rw [mb.out,<- bI]);obtain ⟨j0,j1,j2,j3,j4,j5⟩:=cw hS.box;have jl:=hS.box.lt;obtain ⟨r0,r1,r2,r3,r4,r5⟩:=cw hS.rb;have rl:=hS.rb.lt;have rf:=hS.rb.fz;have gg:=hS.bp.c2;have nw:=hS.bp.lt;have Cg:=I hS;have SF:=I Zm;clear hS Zm hOT ar bS hO bI;by_cases fJ:(j:Int) < (N:Int)
   ·obtain rfl:bad = true:=by rcases hd with h0 | h0 <;> first | omega | exact h0
    exact LN
   ·exact LN
  ·obtain rfl:bad = false:=by cases bad <;> first | rfl | exact absurd (.inr rfl) hd
   obtain ⟨k,rfl⟩:∃k',k = k'+1:=⟨k - 1,J⟩;have fJ:(j:Int) < (N:Int):=J;have bI:=QY.out;rw [bt,if_neg (show ¬((a',false):Int × Bool).2 = true by simp)] at bI;have gC:=I bI;have sx:=nG s (a',false) hs;have vb:=nG s (aD s (a',false)).2 hs;have hei:=Bj s (aD s (aD s (a',false)).2).2 hs;have gH:=I (λwq hq=>DJ s b (a',false) wq hq hs);have gL:=I (λwq hq=>DJ s b (aD s (a',false)).2 wq hq hs);have ja:=I (λwq hq=>Ae s b (aD s (aD s (a',false)).2).2 wq hq hs);have HE:=I (show Je s (a',false) = (⟨(aD s (a',false)).1,(aD s (aD s (a',false)).2).1,(iZ s (aD s (aD s (a',false)).2).2).1⟩,(iZ s (aD s (aD s (a',false)).2).2).2) from rfl);clear bI;generalize iZ s (aD s (aD s (a',false)).2).2 = e3 at *;generalize aD s (aD s (a',false)).2 = y2 at *;generalize aD s (a',false) = y1 at *;have ce:b < B3:=J;have gg:=hS.bp.c2;have nw:=hS.bp.lt;have gF:xs.length<=4:=J;go_wp2_with fail
   refine (gH.out _ hS.bp).mono ?_;rintro e w7 ⟨rfl,hI7,WL⟩;have S7:=(hS.call hI7 WL).alloc (.cells ([.string y1.1,.string ⟨#[]⟩,.int .i64 0]:List Value).toArray 84);have r7:=rQ ar WL ce;have O7:=WL.own hO (λy hy hb=>by have:=uO y hy;simp only [List.mem_singleton] at hb;omega);have z7:wr.heap.size<=w7.heap.size:=WL.size;go_wp2_with fail
   refine (gL.out _ S7.bp).mono ?_;rintro e w8 ⟨rfl,hI8,Ub⟩;have X8:=(oG.new w7 [.string y1.1,.string ⟨#[]⟩,.int .i64 0] 84).bE Ub J;have S8:=(S7.call hI8 Ub).br (c:=w7.heap.size) J 1 (.string y2.1);have r8:=xw (c:=w7.heap.size) (i:=1) (u:=.string y2.1) (rQ (r7.alloc _) Ub ce) (λg hg=>by have:=(r7.lt g hg).2;omega);have O8:=(Ub.own (O7.alloc _) (λy hy hb=>by have:=uO y hy;simp only [List.mem_singleton] at hb;omega)).JA (p:=⟨w7.heap.size,1,none⟩) (λhg=>by have h99:w7.heap.size < B3:=Iw _ hg;omega) (.string y2.1);have k8:=X8.cell (i:=1) (u:=.string ⟨#[]⟩) rfl;have f8:=X8.fz 1;have l8:=X8.lt;have Y8:=X8.put 1 (.string y2.1);go_wp2_with fail
   refine (ja.out _ S8.bp).mono ?_;rintro e w9 ⟨rfl,hI9,Xb⟩;have X9:=Y8.bE Xb J;have S9:=(S8.call hI9 Xb).br (c:=w7.heap.size) J 2 (.int .i64 e3.1);have r9:=xw (c:=w7.heap.size) (i:=2) (u:=.int .i64 e3.1) (rQ r8 Xb ce) (λg hg=>by have:=(r7.lt g hg).2;omega);have O9:=(Xb.own O8 (λy hy hb=>by have:=uO y hy;simp only [List.mem_singleton] at hb;omega)).JA (p:=⟨w7.heap.size,2,none⟩) (λhg=>by have h99:w7.heap.size < B3:=Iw _ hg;omega) (.int .i64 e3.1);have k9:=X9.cell (i:=2) (u:=.int .i64 0) rfl;have f9:=X9.fz 2;have l9:=X9.lt;have Y9:=X9.put 2 (.int .i64 e3.1);have z9:B3<=(w9.setCell ⟨w7.heap.size,2,none⟩ (.int .i64 e3.1)).heap.size:=(by have:=Y9.lt;omega);have z9r:wr.heap.size<=(w9.setCell ⟨w7.heap.size,2,none⟩ (.int .i64 e3.1)).heap.size:=(by have:=Y9.lt;omega);have kb:=S9.box.cell (i:=5) (u:=v) rfl;have lb:=S9.box.lt;obtain ⟨x0,x1,x2⟩:=OS Y9;have Bm:=I S9;have mj:=I O9;clear hS hO ar S7 S8 S9 O7 O8 O9 X8 Y8 X9 Y9 hI7 WL hI8 Ub hI9 Xb r7 r8 k8 f8
   go_wp2_with (
    at_builtin
    go_must (refine lC ae5 J' _ _ J' _ _ _ _ _ r9 J' [.string y1.1,.string y2.1,.int .i64 e3.1] gn J' dv J J z9 ?_)
    intro v6 cB GJ ul zO;go_must (obtain ⟨A7,c7,hv6⟩:=rE GJ)
    go_must (subst hv6)
    go_must (have BZ:=Bm.out.grown ul (λq hq=>by have:=(r9.lt q hq).1;omega))
    go_must (have aax:=BZ.box.cell (i:=5) (u:=v) rfl)
    go_must (have aay:=BZ.box.fz 5)
    go_must (have aaz:=BZ.box.lt))
   have cU:=gC.out;rw [HE.out] at cU;replace cU:Hid (bt (Je s) k (xs++[⟨y1.1,y2.1,e3.1⟩]) e3.2 = R):=cU;have O11:=(mj.out.keep (w':=cB) (λy hy=>ul.block y (mj.out.lt y hy) (by intro e;have:=(r9.lt y e.symm).1;have:=Iw y hy;omega)) ul.size).setCell (p:=⟨w1.heap.size,5,none⟩) kI (.slice A7 (xs.length+1) c7);have oe:=xw (c:=w1.heap.size) (i:=5) (u:=.slice A7 (xs.length+1) c7) GJ (λg hg=>by have:=(GJ.lt g hg).1;omega);refine ⟨⟨j+1,k,xs++[⟨y1.1,y2.1,e3.1⟩],_,e3.2,.slice A7 (xs.length+1) c7,N',J,by simp;omega,cU,?_,Tn,aY.tnt bS (by have:=ul.size;simp only [World.setCell,Array.size_modify] at *;omega) sx vb hei,BZ.put 5 (.slice A7 (xs.length+1) c7),O11,by have:=ul.size;simp only [World.setCell,Array.size_modify] at *;omega⟩,by simp [intOf];omega⟩;exact xi
def MJ (n:aE):ByteArray:=aL n.key++jD n.op++jD n.values.length
def MI (n:aE) (j:Nat):ByteArray:=(n.values.take j).foldl (λs v=>s++aL v) (MJ n)
def YZ (n:aE):ByteArray:=MI n n.values.length
def RF (x:nI):ByteArray:=aL x.name++Fe x.labels++jD x.aw++jD x.mem++jD x.av++jD x.af.length
def Bh (x:nI) (k:Nat):ByteArray:=(x.af.take k).foldl (λs n=>s++YZ n) (RF x)
def TQ (x:nI):ByteArray:=Bh x x.af.length++jD x.ae.length
def rY (b:Bool):Int:=if b then 1 else 0
def UE (t:bH):ByteArray:=aL t.key++jD (rY t.equal)++aL t.value++jD t.effect
def Ld (x:nI) (k:Nat):ByteArray:=(x.ae.take k).foldl (λs t=>s++UE t) (TQ x)
def Bg (x:nI):ByteArray:=if GU x then Ld x x.ae.length else ⟨#[]⟩
theorem ap7 (b:Bool):aR (rY b):=by cases b <;> exact ⟨by decide,by decide⟩
theorem X6 (n:aE):MI n 0 = MJ n:=rfl
theorem X7 {n:aE} {j:Nat} (h:j < n.values.length):MI n (j+1) = MI n j++aL n.values[j]:=FI _ _ _ _ h
theorem TP {x:nI} {k:Nat} (h:k < x.af.length):Bh x (k+1) = Bh x k++YZ x.af[k]:=FI _ _ _ _ h
theorem VW {x:nI} {k:Nat} (h:k < x.ae.length):Ld x (k+1) = Ld x k++UE x.ae[k]:=FI _ _ _ _ h
theorem IC (xs:List ao) (hl:(xs.length:Int)<=1048576) (hx:∀l∈xs,(l.key.size:Int)<=1048576/\(l.value.size:Int)<=1048576):((Fe xs).size:Int)<=2199045931018:=by
 exact Mz
theorem aeG {n:aE} (hk:(n.key.size:Int)<=1048576) (ho:aR n.op) (hl:(n.values.length:Int)<=1048576):(MJ n).size<=1048606:=by
 have a:=iJ n.key J;have b:=bM n.op ho;have c:=bM n.values.length ⟨J,J⟩;unfold MJ;rw [ByteArray.size_append,ByteArray.size_append];omega
theorem RG {n:aE} (hk:(n.key.size:Int)<=1048576) (ho:aR n.op) (hl:(n.values.length:Int)<=1048576) (hv:∀v∈n.values,(v.size:Int)<=1048576):∀j,j<=n.values.length->(MI n j).size<=1048606+j * 1048586
 | 0,_=>by rw [X6];have:=aeG hk ho hl;omega
 | j+1,h=>by
   rw [X7 J,ByteArray.size_append];have h1:=RG hk ho hl hv j J;have h2:=iJ n.values[j] (by have:=hv n.values[j] (List.getElem_mem ..);omega);have h3:=hv n.values[j] (List.getElem_mem ..);omega
theorem ag7 {n:aE} (hk:(n.key.size:Int)<=1048576) (ho:aR n.op) (hl:(n.values.length:Int)<=1048576) (hv:∀v∈n.values,(v.size:Int)<=1048576):(YZ n).size<=1099523200000:=by
 have h1:=RG hk ho hl hv n.values.length (Nat.le_refl _);have h2:n.values.length * 1048586<=1048576 * 1048586:=Nat.mul_le_mul_right _ J;unfold YZ;omega
theorem Gf (x:nI) (hx:∀l∈x.af,(l.key.size:Int)<=1048576/\(l.values.length:Int)<=1048576/\∀v∈l.values,(v.size:Int)<=1048576) (hi:∀n∈x.af,aR n.op):∀k,k<=x.af.length->(Bh x k).size<=(RF x).size+k * 1099523200000
 | 0,_=>by simp [Bh]
 | k+1,h=>by
   rw [TP J,ByteArray.size_append];have h1:=Gf x hx hi k J;obtain ⟨a,b,c⟩:=hx x.af[k] (List.getElem_mem ..);have h2:=ag7 a (hi x.af[k] (List.getElem_mem ..)) b c;omega
theorem aip {t:bH} (h1:(t.key.size:Int)<=1048576) (h2:(t.value.size:Int)<=1048576) (h3:aR t.effect):(UE t).size<=2097192:=by
 have a:=iJ t.key J;have b:=iJ t.value J;have c:=bM t.effect h3;have d:=bM (rY t.equal) (ap7 _);unfold UE;rw [ByteArray.size_append,ByteArray.size_append,ByteArray.size_append];omega
theorem PO (x:nI) (hx:∀t∈x.ae,(t.key.size:Int)<=1048576/\(t.value.size:Int)<=1048576) (hi:∀t∈x.ae,aR t.effect):∀k,k<=x.ae.length->(Ld x k).size<=(TQ x).size+k * 2097192
 | 0,_=>by simp [Ld]
 | k+1,h=>by
   rw [VW J,ByteArray.size_append];have h1:=PO x hx hi k J;have h2:=aip (hx x.ae[k] (List.getElem_mem ..)).1 (hx x.ae[k] (List.getElem_mem ..)).2 (hi x.ae[k] (List.getElem_mem ..));omega
theorem Sl.ag4 {w:World} {xs:List aE} {A:Option Addr} {c:Nat} {F:List Nat} (h:Sl w xs A c F):∀t∈xs,aR t.op:=by
 intro p hp;obtain ⟨k,hk,rfl⟩:=List.getElem_of_mem hp;obtain ⟨b,o,ck,Fk,_,_,_,hr,_,_⟩:=h.get hk;obtain ⟨jy,ji,Bo,rfl,rfl,b9,hop,kV⟩:=og hr;exact hop
theorem Sl.akX {w:World} {xs:List bH} {A:Option Addr} {c:Nat} {F:List Nat} (h:Sl w xs A c F):∀t∈xs,aR t.effect:=by
 intro p hp;obtain ⟨k,hk,rfl⟩:=List.getElem_of_mem hp;obtain ⟨b,o,ck,Fk,_,_,_,hr,_,_⟩:=h.get hk;obtain ⟨rfl,rfl,b9,kP,lD⟩:=jv hr;exact lD
theorem MR {s:ByteArray} {a:Int} (h:a < 0):(fG s a).2 < 0:=by rw [QA h];decide
theorem RP {s:ByteArray} {most a:Int} (hm:0<=most) (h:a < 0):jC s most a = (0,-1):=by
 unfold jC;rw [QA h,if_pos hm,if_pos (by decide)]
theorem aoJ {s:ByteArray} {a:Int} {st:Int × Bool} (h:Same a st):Same (dP s a).2 (aD s st).2/\(0<=(dP s a).2->(dP s a).1 = (aD s st).1) :=
 ⟨(CB (s:=s) h.cM).1,λ_=>(CB (s:=s) h.cM).2⟩
def xC {α:Type} (r:Int->α × Int) (s:ByteArray) (most:Int) (a:Int):List α × Int:=qX r (jC s most a).1.toNat [] (jC s most a).2
def BR {α:Type} (r:Int × Bool->α × (Int × Bool)) (s:ByteArray) (most:Int) (st:Int × Bool):List α × (Int × Bool):=bt r (lM s most st).1.toNat [] (lM s most st).2
theorem UL {α:Type} {r:Int->α × Int} (hr:∀a,a < 0->(r a).2 < 0) {s:ByteArray} {most a:Int} (hm:0<=most) (h:a < 0):(xC r s most a).2 < 0:=by
 unfold xC;refine MP hr _ _ _ ?_;rw [RP hm h];decide
theorem aaX {α:Type} {r:Int->α × Int} {q:Int × Bool->α × (Int × Bool)} (hr:∀a,a < 0->(r a).2 < 0) (h:∀a st,Same a st->Same (r a).2 (q st).2/\(0<=(r a).2->(r a).1 = (q st).1))
 {s:ByteArray} {most a:Int} {st:Int × Bool} (hm:0<=most) (hs:Same a st):Same (xC r s most a).2 (BR q s most st).2/\(0<=(xC r s most a).2->(xC r s most a).1 = (BR q s most st).1):=by
 obtain ⟨h1,e1⟩:=P6 (s:=s) hm hs.cM;unfold xC BR;rw [<- e1];exact Y1 hr h _ _ _ _ _ h1 (λ_=>rfl)
def JB (s:ByteArray) (a:Int):aE × Int :=
 (⟨(dP s a).1,(fG s (dP s a).2).1,(xC (dP s) s 4 (fG s (dP s a).2).2).1⟩,(xC (dP s) s 4 (fG s (dP s a).2).2).2)
def RN (s:ByteArray) (st:Int × Bool):aE × (Int × Bool) :=
 (⟨(aD s st).1,(iZ s (aD s st).2).1,(BR (aD s) s 4 (iZ s (aD s st).2).2).1⟩,(BR (aD s) s 4 (iZ s (aD s st).2).2).2)
theorem UZ {s:ByteArray} {a:Int} (h:a < 0):(JB s a).2 < 0:=UL (λa ha=>EU ha) (by decide) (MR (EU h))
theorem aqb {s:ByteArray} {a:Int} {st:Int × Bool} (h:Same a st):Same (JB s a).2 (RN s st).2/\(0<=(JB s a).2->(JB s a).1 = (RN s st).1):=by
 obtain ⟨h1,e1⟩:=CB (s:=s) h.cM;obtain ⟨h2,e2⟩:=CX (s:=s) h1.cM;obtain ⟨h3,e3⟩:=aaX (r:=dP s) (q:=aD s) (λa ha=>EU ha) (λa st hs=>aoJ hs) (s:=s) (most:=4) (by decide) h2;exact ⟨h3,λh0=>by unfold JB RN;rw [e1,e2,e3 h0]⟩
def Zf (s:ByteArray) (a:Int):bH × Int :=
 (⟨(dP s a).1,(jC s 1 (dP s a).2).1 == 1,(dP s (jC s 1 (dP s a).2).2).1,(fG s (dP s (jC s 1 (dP s a).2).2).2).1⟩,(fG s (dP s (jC s 1 (dP s a).2).2).2).2)
def pv (s:ByteArray) (st:Int × Bool):bH × (Int × Bool) :=
 (⟨(aD s st).1,(lM s 1 (aD s st).2).1 == 1,(aD s (lM s 1 (aD s st).2).2).1,(iZ s (aD s (lM s 1 (aD s st).2).2).2).1⟩,(iZ s (aD s (lM s 1 (aD s st).2).2).2).2)
theorem Jc {s:ByteArray} {a:Int} (h:a < 0):(Zf s a).2 < 0:=by
 refine MR (EU ?_);rw [RP (by decide) (EU h)];decide
theorem asj {s:ByteArray} {a:Int} {st:Int × Bool} (h:Same a st):Same (Zf s a).2 (pv s st).2/\(0<=(Zf s a).2->(Zf s a).1 = (pv s st).1):=by
 obtain ⟨h1,e1⟩:=CB (s:=s) h.cM;obtain ⟨h2,e2⟩:=P6 (s:=s) (most:=1) (by decide) h1.cM;obtain ⟨h3,e3⟩:=CB (s:=s) h2.cM;obtain ⟨h4,e4⟩:=CX (s:=s) h3.cM;exact ⟨h4,λ_=>by unfold Zf pv;rw [e1,e2,e3,e4]⟩
def Ll (s:ByteArray) (nm:ByteArray) (ls:List ao) (a:Int):nI × Int :=
 (⟨nm,ls,(fG s a).1,(fG s (fG s a).2).1,(fG s (fG s (fG s a).2).2).1,(xC (JB s) s 4 (fG s (fG s (fG s a).2).2).2).1,
   (xC (Zf s) s 4 (xC (JB s) s 4 (fG s (fG s (fG s a).2).2).2).2).1⟩,(xC (Zf s) s 4 (xC (JB s) s 4 (fG s (fG s (fG s a).2).2).2).2).2)
def Yf (s:ByteArray) (nm:ByteArray) (ls:List ao) (st:Int × Bool):nI × (Int × Bool) :=
 (⟨nm,ls,(iZ s st).1,(iZ s (iZ s st).2).1,(iZ s (iZ s (iZ s st).2).2).1,(BR (RN s) s 4 (iZ s (iZ s (iZ s st).2).2).2).1,
   (BR (pv s) s 4 (BR (RN s) s 4 (iZ s (iZ s (iZ s st).2).2).2).2).1⟩,(BR (pv s) s 4 (BR (RN s) s 4 (iZ s (iZ s (iZ s st).2).2).2).2).2)
theorem MS {s nm:ByteArray} {ls:List ao} {a:Int} (h:a < 0):(Ll s nm ls a).2 < 0 :=
 UL (λa ha=>Jc ha) (by decide) (UL (λa ha=>UZ ha) (by decide) (MR (MR (MR h))))
theorem ahi {s nm nm':ByteArray} {ls Ge:List ao} {a:Int} {st:Int × Bool} (h:Same a st) (hn:nm = nm') (hl:0<=a->ls = Ge):Same (Ll s nm ls a).2 (Yf s nm' Ge st).2/\(0<=(Ll s nm ls a).2->(Ll s nm ls a).1 = (Yf s nm' Ge st).1):=by
 obtain ⟨h1,e1⟩:=CX (s:=s) h.cM;obtain ⟨h2,e2⟩:=CX (s:=s) h1.cM;obtain ⟨h3,e3⟩:=CX (s:=s) h2.cM;obtain ⟨h4,e4⟩:=aaX (r:=JB s) (q:=RN s) (λa ha=>UZ ha) (λa st hs=>aqb hs) (s:=s) (most:=4) (by decide) h3;obtain ⟨h5,e5⟩:=aaX (r:=Zf s) (q:=pv s) (λa ha=>Jc ha) (λa st hs=>asj hs) (s:=s) (most:=4) (by decide) h4;refine ⟨h5,λh0=>?_⟩;have hb:0<=(xC (JB s) s 4 (fG s (fG s (fG s a).2).2).2).2:=by
  rcases Int.lt_or_le (xC (JB s) s 4 (fG s (fG s (fG s a).2).2).2).2 0 with am | iN
  ·exact absurd (UL (r:=Zf s) (λa ha=>Jc ha) (s:=s) (most:=4) (by decide) am) (by have:=h0;unfold Ll at this;dsimp only at this;omega)
  ·exact iN
 have ha:0<=a:=by
  rcases Int.lt_or_le a 0 with am | iN
  ·exact absurd (MS (s:=s) (nm:=nm) (ls:=ls) am) J
  ·exact iN
 unfold Ll Yf;dsimp only;rw [hn,hl ha,e1,e2,e3,e4 hb,e5 h0]
def Ag (s:ByteArray) (a:Int):nI × Int:=Ll s (dP s a).1 (iF s (dP s a).2).1 (iF s (dP s a).2).2
def Dl (s:ByteArray) (a:Int):nI × Int:=((Ag s a).1,if GU (Ag s a).1 = true then (Ag s a).2 else -1)
def uF (s:ByteArray) (st:Int × Bool):nI × (Int × Bool):=Yf s (aD s st).1 (jS s (aD s st).2).1 (jS s (aD s st).2).2
theorem adW {h:nI} (e:sD h.labels = false):GU h = false:=by unfold GU;rw [e];simp
def Bl (hs:List az) (k:Int):ByteArray:=if 0 < k then (match hs[(k - 1).toNat]? with | some h=>h.name | none=>⟨#[]⟩) else ⟨#[]⟩
theorem ZV {hs:List az} {k:Int} (h:¬0 < k):Bl hs k = ⟨#[]⟩:=by unfold Bl;rw [if_neg h]
theorem Vc {hs:List az} {k:Int} {j:Nat} (hj:j < hs.length) (h:k = (j:Int)+1):Bl hs k = hs[j].name:=by
 unfold Bl;rw [if_pos J,show (k - 1).toNat = j by omega,List.getElem?_eq_getElem hj]
def JF (s:ByteArray) (hs:List az) (a:Int):ag × Int :=
 (⟨(Dl s a).1,Bl hs (jC s hs.length (Dl s a).2).1,(fG s (jC s hs.length (Dl s a).2).2).1⟩,(fG s (jC s hs.length (Dl s a).2).2).2)
def NP (s:ByteArray) (hs:List az) (st:Int × Bool):ag × (Int × Bool) :=
 (⟨(uF s st).1,Bl hs (lM s hs.length (uF s st).2).1,(iZ s (lM s hs.length (uF s st).2).2).1⟩,(iZ s (lM s hs.length (uF s st).2).2).2)
def Vd (s:ByteArray) (p q f n:Int) (a:Int):aU × Int :=
 (⟨(xC (Ad s) s 8 a).1,(xC (JF s (xC (Ad s) s 8 a).1) s 12 (xC (Ad s) s 8 a).2).1,n,⟨p,q,f⟩⟩,(xC (JF s (xC (Ad s) s 8 a).1) s 12 (xC (Ad s) s 8 a).2).2)
def Jd (s:ByteArray) (p q f n:Int) (st:Int × Bool):aU × (Int × Bool) :=
 (⟨(BR (wF s) s 8 st).1,(BR (NP s (BR (wF s) s 8 st).1) s 12 (BR (wF s) s 8 st).2).1,n,⟨p,q,f⟩⟩,(BR (NP s (BR (wF s) s 8 st).1) s 12 (BR (wF s) s 8 st).2).2)
def RQ (s:ByteArray):aU × Int :=
 Vd s (fG s 0).1 (fG s (fG s 0).2).1 (fG s (fG s (fG s 0).2).2).1 (fG s (fG s (fG s (fG s 0).2).2).2).1 (fG s (fG s (fG s (fG s 0).2).2).2).2
def RU (s:ByteArray):aU × (Int × Bool) :=
 Jd s (iZ s (0,false)).1 (iZ s (iZ s (0,false)).2).1 (iZ s (iZ s (iZ s (0,false)).2).2).1 (iZ s (iZ s (iZ s (iZ s (0,false)).2).2).2).1 (iZ s (iZ s (iZ s (iZ s (0,false)).2).2).2).2
def nX:aU:=⟨[],[],0,⟨0,0,0⟩⟩
def zh (s:ByteArray):aU × Bool:=if (RQ s).2 = (s.size:Int)/\iI (RQ s).1 = true then ((RQ s).1,true) else (nX,false)
def nZ (s:ByteArray):aU × Bool:=if (RU s).2 = ((s.size:Int),false)/\iI (RU s).1 = true then ((RU s).1,true) else (nX,false)
def Rh {α:Type} (r:Int->α × Int) (q:Int × Bool->α × (Int × Bool)) (ok:α->Bool):Prop :=
 ∀a st,Same a st->(0<=(r a).2/\(q st).2 = ((r a).2,false)/\(r a).1 = (q st).1)∨((r a).2 < 0/\((q st).2.2 = true∨ok (q st).1 = false))
theorem aaY {a:Int} {st:Int × Bool} (h0:0<=a) (h:st = (a,false)):Same a st:=⟨λ_=>h,λhn=>by omega⟩
theorem aja {α:Type} {r:Int->α × Int} {q:Int × Bool->α × (Int × Bool)} {ok:α->Bool} (hr:∀a,a < 0->(r a).2 < 0) (h:Rh r q ok) :
 ∀(k:Nat) (xs ys:List α) (a:Int) (st:Int × Bool),((Same a st/\(0<=a->xs = ys))∨(a < 0/\(st.2 = true∨∃y∈ys,ok y = false))) ->
  (0<=(qX r k xs a).2/\(bt q k ys st).2 = ((qX r k xs a).2,false)/\(qX r k xs a).1 = (bt q k ys st).1)∨((qX r k xs a).2 < 0/\((bt q k ys st).2.2 = true∨∃y∈(bt q k ys st).1,ok y = false))
 | 0,xs,ys,a,st,hh=>by
   rcases hh with ⟨hs,he⟩ | hb
   ·rcases Int.lt_or_le a 0 with ha | ha
    ·exact .inr ⟨ha,.inl (hs.2 ha)⟩
    ·exact .inl ⟨ha,hs.1 ha,he ha⟩
   ·exact .inr hb
 | k+1,xs,ys,a,st,hh=>by
   rw [qX,bt];by_cases hf:st.2 = true
   ·rw [if_pos hf];have ha:a < 0:=by
     rcases hh with ⟨hs,_⟩ | ⟨ha,_⟩
     ·rcases Int.lt_or_le a 0 with ha | ha
      ·exact ha
      ·rw [hs.1 ha] at hf;cases hf
     ·exact ha
    exact .inr ⟨MP hr k _ _ (hr a ha),.inl hf⟩
   ·rw [if_neg hf];refine aja hr h k _ _ _ _ ?_;rcases hh with ⟨hs,he⟩ | ⟨ha,hb⟩
    ·have ha:0<=a:=by
      rcases Int.lt_or_le a 0 with ha | ha
      ·exact absurd (hs.2 ha) hf
      ·exact ha
     rcases h a st hs with ⟨h1,h2,h3⟩ | ⟨h1,h2⟩
     ·exact .inl ⟨aaY h1 h2,λ_=>by rw [he ha,h3]⟩
     ·refine .inr ⟨h1,?_⟩;rcases h2 with h2 | h2
      ·exact .inl h2
      ·exact .inr ⟨_,List.mem_append_right _ (List.mem_singleton.2 rfl),h2⟩
    ·refine .inr ⟨hr a ha,?_⟩;rcases hb with hb | ⟨y,hy,hb⟩
     ·exact absurd hb hf
     ·exact .inr ⟨y,List.mem_append_left _ hy,hb⟩
theorem ajb {α:Type} {r:Int->α × Int} {q:Int × Bool->α × (Int × Bool)} {ok:α->Bool} (hr:∀a,a < 0->(r a).2 < 0) (h:Rh r q ok) {s:ByteArray} {most a:Int} {st:Int × Bool} (hm:0<=most) (hs:Same a st) :
 (0<=(xC r s most a).2/\(BR q s most st).2 = ((xC r s most a).2,false)/\(xC r s most a).1 = (BR q s most st).1)∨((xC r s most a).2 < 0/\((BR q s most st).2.2 = true∨∃y∈(BR q s most st).1,ok y = false)):=by
 obtain ⟨h1,e1⟩:=P6 (s:=s) hm hs.cM;unfold xC BR;rw [<- e1];exact aja hr h _ _ _ _ _ (.inl ⟨h1,λ_=>rfl⟩)
theorem aqe (s:ByteArray):Rh (Ad s) (wF s) Aj:=by
 intro a st h;obtain ⟨h1,e1⟩:=CB (s:=s) h.cM;obtain ⟨h2,e2⟩:=Oo (s:=s) h1.cM;obtain ⟨h3,e3⟩:=ai5 (s:=s) (nm:=(dP s a).1) (nm':=(aD s st).1) h2 e1 e2;cases hl:sD (iP s (dP s a).2).1 with
 | false =>
   have dz:(iF s (dP s a).2).2 < 0:=(by unfold iF;rw [hl];simp);have pc:(xY s a).2 < 0:=PZ dz;refine .inr ⟨by show (if _ then _ else _:Int) < 0;split;exact pc;decide,?_⟩;rcases Int.lt_or_le (iP s (dP s a).2).2 0 with hb | hb
   ·exact .inl (h3.2 (PZ hb))
   ·right;refine acd ?_;show sD (jS s (aD s st).2).1 = false;rw [<- e2 hb];exact hl
 | true =>
   have eC:iF s (dP s a).2 = iP s (dP s a).2:=(by unfold iF;rw [hl,if_pos rfl]);have y9:xY s a = WM s (dP s a).1 (iP s (dP s a).2).1 (iP s (dP s a).2).2:=(by unfold xY;rw [eC]);rcases Int.lt_or_le (WM s (dP s a).1 (iP s (dP s a).2).1 (iP s (dP s a).2).2).2 0 with hb | hb
   ·exact .inr ⟨by show (if _ then _ else _:Int) < 0;rw [y9];split;exact hb;decide,.inl (h3.2 hb)⟩
   ·have e4:=e3 hb;have s4:=h3.1 hb;have hh:(xY s a).1 = (wF s st).1:=(by rw [y9,e4];rfl);have hs4:(wF s st).2 = ((xY s a).2,false):=(by rw [y9];exact s4);cases hr:Aj (wF s st).1 with
    | false=>exact .inr ⟨by show (if _ then _ else _:Int) < 0;rw [hh,hr];simp,.inr rfl⟩
    | true =>have e5:Ad s a = ((xY s a).1,(xY s a).2):=(by unfold Ad;rw [hh,hr,if_pos rfl]);exact .inl ⟨by rw [e5,y9];exact hb,by rw [e5];exact hs4,by rw [e5];exact hh⟩
theorem aso (s:ByteArray):Rh (Dl s) (uF s) GU:=by
 intro a st h;obtain ⟨h1,e1⟩:=CB (s:=s) h.cM;obtain ⟨h2,e2⟩:=Oo (s:=s) h1.cM;obtain ⟨h3,e3⟩:=ahi (s:=s) (nm:=(dP s a).1) (nm':=(aD s st).1) h2 e1 e2;cases hl:sD (iP s (dP s a).2).1 with
 | false =>
   have dz:(iF s (dP s a).2).2 < 0:=(by unfold iF;rw [hl];simp);have pc:(Ag s a).2 < 0:=MS dz;refine .inr ⟨by show (if _ then _ else _:Int) < 0;split;exact pc;decide,?_⟩;rcases Int.lt_or_le (iP s (dP s a).2).2 0 with hb | hb
   ·exact .inl (h3.2 (MS hb))
   ·right;refine adW ?_;show sD (jS s (aD s st).2).1 = false;rw [<- e2 hb];exact hl
 | true =>
   have eC:iF s (dP s a).2 = iP s (dP s a).2:=(by unfold iF;rw [hl,if_pos rfl]);have y9:Ag s a = Ll s (dP s a).1 (iP s (dP s a).2).1 (iP s (dP s a).2).2:=(by unfold Ag;rw [eC]);rcases Int.lt_or_le (Ll s (dP s a).1 (iP s (dP s a).2).1 (iP s (dP s a).2).2).2 0 with hb | hb
   ·exact .inr ⟨by show (if _ then _ else _:Int) < 0;rw [y9];split;exact hb;decide,.inl (h3.2 hb)⟩
   ·have e4:=e3 hb;have s4:=h3.1 hb;have hh:(Ag s a).1 = (uF s st).1:=(by rw [y9,e4];rfl);have hs4:(uF s st).2 = ((Ag s a).2,false):=(by rw [y9];exact s4);cases hr:GU (uF s st).1 with
    | false=>exact .inr ⟨by show (if _ then _ else _:Int) < 0;rw [hh,hr];simp,.inr rfl⟩
    | true =>have e5:Dl s a = ((Ag s a).1,(Ag s a).2):=(by unfold Dl;rw [hh,hr,if_pos rfl]);exact .inl ⟨by rw [e5,y9];exact hb,by rw [e5];exact hs4,by rw [e5];exact hh⟩
theorem aqf {s:ByteArray} {a:Int} (h:a < 0):(Ad s a).2 < 0:=by
 have hn:(iF s (dP s a).2).2 < 0:=by exact MG
 have pc:(xY s a).2 < 0:=PZ hn;show (if _ then _ else _:Int) < 0;split
 ·exact pc
 ·decide
theorem asq {s:ByteArray} {a:Int} (h:a < 0):(Dl s a).2 < 0:=by
 have hn:(iF s (dP s a).2).2 < 0:=by exact MG
 have pc:(Ag s a).2 < 0:=MS hn;show (if _ then _ else _:Int) < 0;split
 ·exact pc
 ·decide
theorem Ve {s:ByteArray} {hs:List az} {a:Int} (h:a < 0):(JF s hs a).2 < 0:=by
 refine MR ?_;rw [RP J (asq h)];decide
theorem ajc {s:ByteArray} {st:Int × Bool} (h:st.2 = true):(iZ s st).2.2 = true:=by unfold iZ;rw [if_pos (.inr h)]
theorem ahn {s:ByteArray} {most:Int} {st:Int × Bool} (h:st.2 = true):(lM s most st).2.2 = true:=by
 unfold lM;split
 ·rfl
 ·exact ajc h
theorem aoP {α:Type} {q:Int × Bool->α × (Int × Bool)} {s:ByteArray} {most:Int} {st:Int × Bool} (h:st.2 = true):(BR q s most st).2.2 = true:=by
 unfold BR;have h1:=ahn (s:=s) (most:=most) h;cases (lM s most st).1.toNat with
 | zero=>exact h1
 | succ k=>rw [bt,if_pos h1];exact h1
theorem amR (s:ByteArray) (hs:List az):Rh (JF s hs) (NP s hs) (λp=>GU p.aS):=by
 intro a st h;unfold JF NP;dsimp only;generalize hl:(hs.length:Int) = l;have bI:0<=l:=by omega
 rcases aso s a st h with ⟨h1,h2,h3⟩ | ⟨h1,h2⟩
 ·obtain ⟨h4,e4⟩:=P6 (s:=s) (most:=l) bI (aaY h1 h2).cM;obtain ⟨h5,e5⟩:=CX (s:=s) h4.cM;rcases Int.lt_or_le (fG s (jC s l (Dl s a).2).2).2 0 with hb | hb
  ·exact .inr ⟨hb,.inl (h5.2 hb)⟩
  ·exact .inl ⟨hb,h5.1 hb,by rw [h3,e4,e5]⟩
 ·refine .inr ⟨?_,?_⟩
  ·refine MR ?_;rw [RP bI h1];decide
  ·rcases h2 with h2 | h2
   ·exact .inl (ajc (ahn h2))
   ·exact .inr h2
theorem adZ {α:Type} {ok:α->Bool} {less:α->α->Bool} {xs:List α} {k:Nat} (hk:k < xs.length) (h:ok xs[k] = false):rowAt ok less xs k = false:=by
 cases k with
 | zero=>rw [bF hk,h]
 | succ j=>rw [yS hk,h];rfl
theorem adp {x:aU} {y:az} (hy:y∈x.aa) (h:Aj y = false):iI x = false:=by
 obtain ⟨k,hk,rfl⟩:=List.getElem_of_mem hy;exact dW hk (adZ hk (by unfold dY;rw [h];rfl))
theorem aeL {x:aU} {y:ag} (hy:y∈x.O) (h:GU y.aS = false):iI x = false:=by
 obtain ⟨k,hk,rfl⟩:=List.getElem_of_mem hy;exact jP hk (adZ hk (by unfold jT;rw [h];rfl))
theorem ah8 (s:ByteArray):zh s = nZ s:=by
 obtain ⟨g1,e1⟩:=CX (s:=s) (V5 0);obtain ⟨g2,e2⟩:=CX (s:=s) g1.cM;obtain ⟨g3,e3⟩:=CX (s:=s) g2.cM;obtain ⟨g4,e4⟩:=CX (s:=s) g3.cM;have hI:(RQ s).2 < 0->zh s = (nX,false):=λh=>by unfold zh;rw [if_neg (λhh=>by omega)]
 have hS:((RU s).2.2 = true∨iI (RU s).1 = false)->nZ s = (nX,false):=λh=>by
  unfold nZ;rw [if_neg ?_];rintro ⟨h1,h2⟩;rcases h with h | h
  ·rw [h1] at h;cases h
  ·rw [h] at h2;cases h2
 rcases ajb (λa ha=>aqf ha) (aqe s) (s:=s) (most:=8) (by decide) g4 with ⟨k1,k2,k3⟩ | ⟨k1,k2⟩
 ·have hh:=aaY k1 k2;rcases ajb (λa ha=>Ve ha) (amR s (xC (Ad s) s 8 (fG s (fG s (fG s (fG s 0).2).2).2).2).1) (s:=s) (most:=12) (by decide) hh with ⟨m1,m2,m3⟩ | ⟨m1,m2⟩
  ·have hp:(RU s).2 = ((RQ s).2,false):=(by unfold RU RQ Jd Vd;dsimp only;rw [<- k3];exact m2);have hc:(RU s).1 = (RQ s).1:=(by unfold RU RQ Jd Vd;dsimp only;rw [<- k3,<- m3,<- e1,<- e2,<- e3,<- e4]);unfold zh nZ;rw [hp,hc];by_cases h:(RQ s).2 = (s.size:Int)/\iI (RQ s).1 = true
   ·rw [if_pos h,if_pos ⟨by rw [h.1],h.2⟩]
   ·rw [if_neg h,if_neg (λhh=>h ⟨(Prod.mk.inj hh.1).1,hh.2⟩)]
  ·rw [hI m1,hS ?_];rcases m2 with m2 | ⟨y,hy,m2⟩
   ·left;unfold RU Jd;dsimp only;rw [<- k3];exact m2
   ·right;refine aeL (y:=y) ?_ m2;unfold RU Jd;dsimp only;rw [<- k3];exact hy
 ·have hn:(RQ s).2 < 0:=UL (λa ha=>Ve ha) (by decide) k1;rw [hI hn,hS ?_];rcases k2 with k2 | ⟨y,hy,k2⟩
  ·exact .inl (aoP k2)
  ·exact .inr (adp (x:=(RU s).1) hy k2)
end Go.Proofs.YtjahcnjmjahbaaaGreat
