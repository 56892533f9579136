/- FnExactManifestNormal: for every manifest the program's ManifestNormal and the reference's answer alike, the result in memory of its own, and the program leaves the manifest as it was. No condition. -/
import Derived.Test.YtnedlmlpeplnfaaGreatManS
import Derived.Test.YtnedlmlpeplnfaaGreatManI
import Derived.Test.YtnedlmlpeplnfaaGreatRegionIx
import Derived.Test.YtnedlmlpeplnfaaGreatToNeed
import Derived.Test.YtnedlmlpeplnfaaGreatOpen
import Derived.Test.YtnedlmlpeplnfaaGreatInsP
import Derived.Test.YtnedlmlpeplnfaaGreatSortLabelsP
import Derived.StillTailTactics
namespace Go.Proofs.YtnedlmlpeplnfaaGreat.fnExactManifestNormal
open Go.ChangeShapes Go.WideShapes Go.ChangeAt Go.RowKit
set_option linter.unusedVariables false
set_option linter.unusedSimpArgs false
set_option maxHeartbeats 8000000
set_option maxRecDepth 100000
theorem manNormR_wt (x:Manifest):(manNormR x).1.wt≤x.wt:=by
 have h1:=podNormalR_wt x.aS;have h2:=hostNormalR_wt x.host;unfold manNormR Manifest.wt;split
 ·dsimp only;omega
 ·split
  ·dsimp only;omega
  ·exact Nat.le_refl _
theorem manNormR_cnt (x:Manifest):cntTopManifest (manNormR x).1≤6 * x.wt:=by
 have h1:=cntTopManifest_le (manNormR x).1;have h2:=manNormR_wt x;omega
theorem walk (x:Manifest) (cs:List Value) (F:List Nat) (w:World) (h:rd w x cs F) :
 Calls Tryz.prog 3 #[.agg cs.toArray] w fun e w'=>e = .returned (.bool true)∧Below w.heap.size w w':=by
 by_cases hw:(x.wt:Int)≤1048576
 ·have hsz:xu x.wt 1048576 = 1048576 - x.wt:=by have:=bI x.wt 1048576;omega
  have vK:=I' hsz;have hb0:(0:Int)≤1048576 - x.wt:=by omega
  have hcx:(cntTopManifest x:Int)≤6291456:=by have:=cntTopManifest_le x;omega
  have hcr:(cntTopManifest (manNormR x).1:Int)≤6291456:=by have:=manNormR_cnt x;have h8:=manNormR_wt x;omega
  have afR:=I' ((aqM x x).2 rfl);have Du:=I' hw;have Ob:=I' (fun cs F wq a=>ManifestNormal_spec x cs F wq a hw);have QT:=I' (fun cs F wq a=>ManifestNormal_impl x cs F wq a hw);clear hsz hw;generalize manNormR x = R at *;obtain ⟨r,cd⟩:=R;dsimp only at *;have HSL:=I' ((aqM r r).2 rfl);have hnn:(cd != cd) = false:=by simp
  have hr:=h;obtain ⟨gV,gW,lF,iR,iT,mV,dD,dF,iH,yx,yA,JV,yB,yC,JW,hck,qp,hkind,nY,iE,rF,rG,oZ,je,dN,JX,EZ,NT,NU,Hf,E5⟩:=NS hr;subst hck;clear qp hr;go_enter Tryz.func3,Tryz.ntmps3;go_wp2_with fail
  refine (ahw x _ _ _ _ (aZ h atT) O' O').mono ?_;rw [vK.out];rintro e w1 ⟨rfl,hb1⟩;obtain ⟨hc1,hf1⟩:=ay hb1;have hB1:Below w.heap.size w w1:=ah atT hb1;have hz0_1:w.heap.size < w1.heap.size:=sq hb1.size;go_wp2_with fail
  refine (ahG x _ _ _ (aZ h atT) Du.out).mono ?_;rintro e w2 ⟨cs2,G2,rfl,hO2,hb2⟩;obtain ⟨hc2,hf2⟩:=ay hb2;have hB2:Below w.heap.size w w2:=ah atT hb2;have hz0_2:w.heap.size < w2.heap.size:=sq hb2.size;have hR2:=hO2.rd;obtain ⟨mZ,ng,DX,oL,oM,FC,jG,jH,wu,DY,DZ,abB,D5,D6,abC,hck,hG2,LX,Ci,wR,EM,EN,Cj,yU,pF,Vk,O0,YK,YL,Rh,O1⟩:=NS hR2;subst hck;clear hG2 hR2;go_wp2_with fail
  refine (Ob.out _ _ _ hO2.rd).mono ?_;rintro e w4 ⟨cs4,G4,rfl,hO4,hb4⟩;obtain ⟨hc4,hf4⟩:=ay hb4;have hB4:Below w.heap.size w w4:=ah atT hb4;have hz0_4:w.heap.size < w4.heap.size:=sq hb4.size;have IY:=hO4.rd;obtain ⟨BK,BL,Q9,Ed,Ee,U5,uj,um,JD,Ahostlabels4,chostlabels4,Fhostlabels4,Ahosttaints4,chosttaints4,Fhosttaints4,hck,hG4,hkind4,YE,Fa,NZ,N7,J4,Hl,yF,hhostname4,hhostlabels4,hhostcpu4,hhostmem4,hhostslots4,hhosttaints4⟩:=NS IY;subst hck;clear hG4 IY;have Zn:=I' (show ∀y∈G4,w.heap.size < y∧y < w4.heap.size from fun y hy=>⟨by have:=hO4.base y hy;have:=hb4.size;omega,hO4.lt y hy⟩);go_wp2_with fail
  refine (ahG x _ _ _ (aZ h atT) Du.out).mono ?_;rintro e w5 ⟨cs5,G5,rfl,fH,hb5⟩;obtain ⟨hc5,hf5⟩:=ay hb5;have Dc:Below w.heap.size w w5:=ah atT hb5;have hz0_5:w.heap.size < w5.heap.size:=sq hb5.size;have aiO:w4.heap.size < w5.heap.size:=sq hb5.size;first | replace hO4:=Own.ext hO4 hb5 | replace hO4:=Own.ext (hO4.alloc _) hb5 | replace hO4:=Own.ext ((hO4.alloc _).alloc _) hb5
  have hR5:=fH.rd;obtain ⟨Apodlabels5,cpodlabels5,Fpodlabels5,Apodneeds5,cpodneeds5,Fpodneeds5,Apodtolerances5,cpodtolerances5,Fpodtolerances5,Ahostlabels5,chostlabels5,Fhostlabels5,Ahosttaints5,chosttaints5,Fhosttaints5,hck,hG5,hkind5,hpodname5,hpodlabels5,hpodcpu5,hpodmem5,hpodrank5,hpodneeds5,hpodtolerances5,hhostname5,hhostlabels5,hhostcpu5,hhostmem5,hhostslots5,hhosttaints5⟩:=NS hR5;subst hck;clear hG5 hR5;have h45:w4.heap.size≤w5.heap.size:=sq hb5.size;have HG5:=I' (show ∀y∈G5,w4.heap.size≤y∧y < w5.heap.size∧y≠w4.heap.size from fun y hy=>⟨by have:=fH.base y hy;(try simp at this);omega,fH.lt y hy,by have:=fH.base y hy;(try simp at this);omega⟩);go_wp2_with fail
  refine (QT.out _ _ _ (fH.alloc _).rd).mono ?_;rintro e w7 ⟨cs7,G7,rfl,iG,hb7⟩;obtain ⟨hc7,hf7⟩:=ay hb7;have WE:Below w.heap.size w w7:=ah atT hb7;have hz0_7:w.heap.size < w7.heap.size:=sq hb7.size;have aiP:w4.heap.size < w7.heap.size:=sq hb7.size;have aiQ:w5.heap.size < w7.heap.size:=sq hb7.size;first | replace hO4:=Own.ext hO4 hb7 | replace hO4:=Own.ext (hO4.alloc _) hb7 | replace hO4:=Own.ext ((hO4.alloc _).alloc _) hb7
  first | replace fH:=Own.ext fH hb7 | replace fH:=Own.ext (fH.alloc _) hb7 | replace fH:=Own.ext ((fH.alloc _).alloc _) hb7
  have Rj:=iG.rd;obtain ⟨Apodlabels7,cpodlabels7,Fpodlabels7,Apodneeds7,cpodneeds7,Fpodneeds7,Apodtolerances7,cpodtolerances7,Fpodtolerances7,Ahostlabels7,chostlabels7,Fhostlabels7,Ahosttaints7,chosttaints7,Fhosttaints7,hck,hG7,hkind7,hpodname7,hpodlabels7,hpodcpu7,hpodmem7,hpodrank7,hpodneeds7,hpodtolerances7,hhostname7,hhostlabels7,hhostcpu7,hhostmem7,hhostslots7,hhosttaints7⟩:=NS Rj;subst hck;clear hG7 Rj;have HG7:=I' (show ∀y∈G7,w5.heap.size < y∧y≠w7.heap.size from fun y hy=>⟨by have:=iG.base y hy;(try simp at this);omega,by have:=iG.lt y hy;omega⟩);have hP7:w5.heap.size < w7.heap.size:=by omega
  go_wp2_with fail
  refine (afA r r _ _ _ _ _ (iG.alloc _).rd (hO4.alloc _).rd).mono ?_;rw [HSL.out];rintro e w8 ⟨rfl,hb8⟩;obtain ⟨hc8,hf8⟩:=ay hb8;have XA:Below w.heap.size w w8:=ah atT hb8;have hz0_8:w.heap.size < w8.heap.size:=sq hb8.size;have aiR:w4.heap.size < w8.heap.size:=sq hb8.size;have aiS:w5.heap.size < w8.heap.size:=sq hb8.size;have hz3_8:w7.heap.size < w8.heap.size:=sq hb8.size;first | replace hO4:=Own.ext hO4 hb8 | replace hO4:=Own.ext (hO4.alloc _) hb8 | replace hO4:=Own.ext ((hO4.alloc _).alloc _) hb8
  first | replace fH:=Own.ext fH hb8 | replace fH:=Own.ext (fH.alloc _) hb8 | replace fH:=Own.ext ((fH.alloc _).alloc _) hb8
  first | replace iG:=Own.ext iG hb8 | replace iG:=Own.ext (iG.alloc _) hb8 | replace iG:=Own.ext ((iG.alloc _).alloc _) hb8
  go_wp2_with fail
  refine fV w8 2 U' U' (fun _ _ d _ _ h=>by cases d <;> exact h) (aj _) ?_;simp only [List.take_succ_cons,List.take_zero,List.drop_succ_cons,List.drop_zero]
  iterate 2
   (apply dR
    case hy =>exact Zacc
    simp only [Act.put,pz])
  refine fE ?_;refine aK rfl (fun K hK=>?_);go_simp;refine (ahG x _ _ _ (aZ h atT) Du.out).mono ?_;rintro e w9 ⟨cs9,G9,rfl,SY,xB⟩;have hR9:=SY.rd;obtain ⟨Apodlabels9,cpodlabels9,Fpodlabels9,Apodneeds9,cpodneeds9,Fpodneeds9,Apodtolerances9,cpodtolerances9,Fpodtolerances9,Ahostlabels9,chostlabels9,Fhostlabels9,Ahosttaints9,chosttaints9,Fhosttaints9,hck,hG9,hkind9,hpodname9,hpodlabels9,hpodcpu9,hpodmem9,hpodrank9,hpodneeds9,hpodtolerances9,hhostname9,hhostlabels9,hhostcpu9,hhostmem9,hhostslots9,hhosttaints9⟩:=NS hR9;subst hck;clear hG9 hR9;have hbx:Below w8.heap.size w8 w9:=ah (aA (aj _)) xB;refine hK _ _ hbx (fun _=>?_);try simp only [Act.put,pz]
  clear hK K;refine aK rfl (fun K hK=>?_);go_simp;refine (afA x x _ _ _ _ _ (fH.ext hbx).rd SY.rd).mono ?_;rw [afR.out];rintro e w10 ⟨rfl,fP⟩;replace hbx:=ah hbx fP;refine hK _ _ hbx (fun _=>?_);try simp only [Act.put,pz]
  clear hK K;refine aK rfl (fun K hK=>?_);go_simp;refine hK _ _ hbx (fun _=>?_);try simp only [Act.put,pz]
  clear hK K;refine dX ?_;replace fP:=hbx;clear hbx xB SY;obtain ⟨KH,afK⟩:=ay fP;have Qi:Below w.heap.size w w10:=ah XA fP;have aq7:w.heap.size < w10.heap.size:=sq fP.size;have aq8:w4.heap.size < w10.heap.size:=sq fP.size;have aq9:w5.heap.size < w10.heap.size:=sq fP.size;have ara:w7.heap.size < w10.heap.size:=sq fP.size;first | replace hO4:=Own.ext hO4 fP | replace hO4:=Own.ext (hO4.alloc _) fP | replace hO4:=Own.ext ((hO4.alloc _).alloc _) fP
  first | replace fH:=Own.ext fH fP | replace fH:=Own.ext (fH.alloc _) fP | replace fH:=Own.ext ((fH.alloc _).alloc _) fP
  first | replace iG:=Own.ext iG fP | replace iG:=Own.ext (iG.alloc _) fP | replace iG:=Own.ext ((iG.alloc _).alloc _) fP
  go_wp2_with fail
  as_aux_lemma =>
   refine (markManifest_any x _ _ _ 1 _ fH O' O').mono ?_;rintro e zu ⟨rfl,oz,Gq⟩;have arb:∀o,zu.cell? ⟨w.heap.size,o,none⟩ = w10.cell? ⟨w.heap.size,o,none⟩:=fun o=>World.cell?_of_block (Gq.block _ O' (fun hg=>by have:=HG5.out (w.heap.size) hg;omega));have ard:w.heap.size < zu.heap.size:=by have:=Gq.size;omega
   have arf:∀o,zu.cell? ⟨w4.heap.size,o,none⟩ = w10.cell? ⟨w4.heap.size,o,none⟩:=fun o=>World.cell?_of_block (Gq.block _ O' (fun hg=>by have:=HG5.out (w4.heap.size) hg;omega));have arh:w4.heap.size < zu.heap.size:=by have:=Gq.size;omega
   have ari:∀o,zu.cell? ⟨w7.heap.size,o,none⟩ = w10.cell? ⟨w7.heap.size,o,none⟩:=fun o=>World.cell?_of_block (Gq.block _ O' (fun hg=>by have:=HG5.out (w7.heap.size) hg;omega));have arj:w7.heap.size < zu.heap.size:=by have:=Gq.size;omega
   have aen:Below w.heap.size w zu:=Qi.trans (Gq.below (fun y hy=>by have:=HG5.out y hy;omega) O');replace hO4:=Gq.own hO4 (fun y hy hg=>by have:=Zn.out y hy;have:=HG5.out y hg;omega);replace iG:=Gq.own iG (fun y hy hg=>by have:=HG7.out y hy;have:=HG5.out y hg;omega);clear oz;go_wp2_with fail
   refine (afA r r _ _ _ _ _ iG.rd hO4.rd).mono ?_;rw [HSL.out];rintro e w12 ⟨rfl,iL⟩;obtain ⟨hc12,afN⟩:=ay iL;have Tc:Below w.heap.size w w12:=ah atT iL;have ark:w.heap.size < w12.heap.size:=sq iL.size;have arl:w4.heap.size < w12.heap.size:=sq iL.size;have arn:w7.heap.size < w12.heap.size:=sq iL.size;first | replace hO4:=Own.ext hO4 iL | replace hO4:=Own.ext (hO4.alloc _) iL | replace hO4:=Own.ext ((hO4.alloc _).alloc _) iL
   first | replace iG:=Own.ext iG iL | replace iG:=Own.ext (iG.alloc _) iL | replace iG:=Own.ext ((iG.alloc _).alloc _) iL
   go_wp2_with fail
   refine (markManifest_any r _ _ _ 1 _ iG O' O').mono ?_;rintro e Hy ⟨rfl,oD,LD⟩;have aro:∀o,Hy.cell? ⟨w.heap.size,o,none⟩ = w12.cell? ⟨w.heap.size,o,none⟩:=fun o=>World.cell?_of_block (LD.block _ O' (fun hg=>by have:=HG7.out (w.heap.size) hg;omega));have arp:w.heap.size < Hy.heap.size:=by have:=LD.size;omega
   have arq:∀o,Hy.cell? ⟨w4.heap.size,o,none⟩ = w12.cell? ⟨w4.heap.size,o,none⟩:=fun o=>World.cell?_of_block (LD.block _ O' (fun hg=>by have:=HG7.out (w4.heap.size) hg;omega));have ars:w4.heap.size < Hy.heap.size:=by have:=LD.size;omega
   have aru:∀o,Hy.cell? ⟨w7.heap.size,o,none⟩ = w12.cell? ⟨w7.heap.size,o,none⟩:=fun o=>World.cell?_of_block (LD.block _ O' (fun hg=>by have:=HG7.out (w7.heap.size) hg;omega));have arv:w7.heap.size < Hy.heap.size:=by have:=LD.size;omega
   have aeo:Below w.heap.size w Hy:=Tc.trans (LD.below (fun y hy=>by have:=HG7.out y hy;omega) O');replace hO4:=LD.own hO4 (fun y hy hg=>by have:=Zn.out y hy;have:=HG7.out y hg;omega);go_wp2_with fail
   refine (heldManifest_any (mkTopManifest r 1) _ G7 1 _ oD.rd (mkTopManifest_idem _ _) O' (by rw [cntTopManifest_mk];omega)).mono ?_;rw [cntTopManifest_mk];rintro e xA ⟨rfl,tC⟩;obtain ⟨abM,al9⟩:=ay tC;have WY:Below w.heap.size w xA:=ah atT tC;have arw:w.heap.size < xA.heap.size:=sq tC.size;have arx:w4.heap.size < xA.heap.size:=sq tC.size;have arz:w7.heap.size < xA.heap.size:=sq tC.size;first | replace hO4:=Own.ext hO4 tC | replace hO4:=Own.ext (hO4.alloc _) tC | replace hO4:=Own.ext ((hO4.alloc _).alloc _) tC
   first | replace oD:=Own.ext oD tC | replace oD:=Own.ext (oD.alloc _) tC | replace oD:=Own.ext ((oD.alloc _).alloc _) tC
   go_wp2_with fail
   refine (ahG x _ _ _ (aZ h atT) Du.out).mono ?_;rintro e w16 ⟨cs16,G16,rfl,hO16,hb16⟩;obtain ⟨hc16,an0⟩:=ay hb16;have acV:Below w.heap.size w w16:=ah atT hb16;have hz0_16:w.heap.size < w16.heap.size:=sq hb16.size;have hz1_16:w4.heap.size < w16.heap.size:=sq hb16.size;have hz2_16:w7.heap.size < w16.heap.size:=sq hb16.size;first | replace hO4:=Own.ext hO4 hb16 | replace hO4:=Own.ext (hO4.alloc _) hb16 | replace hO4:=Own.ext ((hO4.alloc _).alloc _) hb16
   first | replace oD:=Own.ext oD hb16 | replace oD:=Own.ext (oD.alloc _) hb16 | replace oD:=Own.ext ((oD.alloc _).alloc _) hb16
   have hR16:=hO16.rd;obtain ⟨Apodlabels16,cpodlabels16,Fpodlabels16,Apodneeds16,cpodneeds16,Fpodneeds16,Apodtolerances16,cpodtolerances16,Fpodtolerances16,Ahostlabels16,chostlabels16,Fhostlabels16,Ahosttaints16,chosttaints16,Fhosttaints16,hck,hG16,hkind16,hpodname16,hpodlabels16,hpodcpu16,hpodmem16,hpodrank16,hpodneeds16,hpodtolerances16,hhostname16,hhostlabels16,hhostcpu16,hhostmem16,hhostslots16,hhosttaints16⟩:=NS hR16;subst hck;clear hG16 hR16;go_wp2_with fail
   refine (QT.out _ _ _ hO16.rd).mono ?_;rintro e UY ⟨cs17,G17,rfl,jK,Ai⟩;obtain ⟨hc17,hf17⟩:=ay Ai;have hB17:Below w.heap.size w UY:=ah atT Ai;have arE:w.heap.size < UY.heap.size:=sq Ai.size;have arF:w4.heap.size < UY.heap.size:=sq Ai.size;have arG:w7.heap.size < UY.heap.size:=sq Ai.size;first | replace hO4:=Own.ext hO4 Ai | replace hO4:=Own.ext (hO4.alloc _) Ai | replace hO4:=Own.ext ((hO4.alloc _).alloc _) Ai
   first | replace oD:=Own.ext oD Ai | replace oD:=Own.ext (oD.alloc _) Ai | replace oD:=Own.ext ((oD.alloc _).alloc _) Ai
   have hR17:=jK.rd;obtain ⟨Apodlabels17,cpodlabels17,Fpodlabels17,Apodneeds17,cpodneeds17,Fpodneeds17,Apodtolerances17,cpodtolerances17,Fpodtolerances17,Ahostlabels17,chostlabels17,Fhostlabels17,Ahosttaints17,chosttaints17,Fhosttaints17,hck,hG17,hkind17,hpodname17,hpodlabels17,hpodcpu17,hpodmem17,hpodrank17,hpodneeds17,hpodtolerances17,hhostname17,hhostlabels17,hhostcpu17,hhostmem17,hhostslots17,hhosttaints17⟩:=NS hR17;subst hck;clear hG17 hR17;go_wp2_with fail
   refine (afA r r _ _ _ _ _ (jK.alloc _).rd (hO4.alloc _).rd).mono ?_;rw [HSL.out];rintro e Qj ⟨rfl,qh⟩;obtain ⟨hc18,hf18⟩:=ay qh;have abN:Below w.heap.size w Qj:=ah atT qh;have arJ:w.heap.size < Qj.heap.size:=sq qh.size;have arK:w4.heap.size < Qj.heap.size:=sq qh.size;have arL:w7.heap.size < Qj.heap.size:=sq qh.size;first | replace hO4:=Own.ext hO4 qh | replace hO4:=Own.ext (hO4.alloc _) qh | replace hO4:=Own.ext ((hO4.alloc _).alloc _) qh
   first | replace oD:=Own.ext oD qh | replace oD:=Own.ext (oD.alloc _) qh | replace oD:=Own.ext ((oD.alloc _).alloc _) qh
   first | replace jK:=Own.ext jK qh | replace jK:=Own.ext (jK.alloc _) qh | replace jK:=Own.ext ((jK.alloc _).alloc _) qh
   go_wp2_with fail
   refine (heldManifest_any (mkTopManifest r 1) _ G7 1 _ oD.rd (mkTopManifest_idem _ _) O' (by rw [cntTopManifest_mk];omega)).mono ?_;rw [cntTopManifest_mk];rintro e w19 ⟨rfl,yL⟩;obtain ⟨hc19,hf19⟩:=ay yL;have ajP:Below w.heap.size w w19:=ah atT yL;have arM:w.heap.size < w19.heap.size:=sq yL.size;have arN:w4.heap.size < w19.heap.size:=sq yL.size;have arO:w7.heap.size < w19.heap.size:=sq yL.size;first | replace hO4:=Own.ext hO4 yL | replace hO4:=Own.ext (hO4.alloc _) yL | replace hO4:=Own.ext ((hO4.alloc _).alloc _) yL
   first | replace oD:=Own.ext oD yL | replace oD:=Own.ext (oD.alloc _) yL | replace oD:=Own.ext ((oD.alloc _).alloc _) yL
   first | replace jK:=Own.ext jK yL | replace jK:=Own.ext (jK.alloc _) yL | replace jK:=Own.ext ((jK.alloc _).alloc _) yL
   go_wp2;go_ret
   exact ⟨rfl,ajP⟩
 ·have hsz:xu x.wt 1048576 = -1:=by have:=bI x.wt 1048576;omega
  have vK:=I' hsz;clear hsz hw;have hr:=h;obtain ⟨gV,gW,lF,iR,iT,mV,dD,dF,iH,yx,yA,JV,yB,yC,JW,hck,qp,hkind,nY,iE,rF,rG,oZ,je,dN,JX,EZ,NT,NU,Hf,E5⟩:=NS hr;subst hck;clear qp hr;go_enter Tryz.func3,Tryz.ntmps3;go_wp2_with fail
  refine (ahw x _ _ _ _ (aZ h atT) O' O').mono ?_;rw [vK.out];rintro e w1 ⟨rfl,hb1⟩;go_wp2;go_ret
  exact ⟨rfl,atT⟩
theorem gX {H:Type} {enc:TypeId × Value→H} (W:World) (base:Nat) (args:Array Value) (ds:List (DataW H)) (p:List MemPlace)
 (hval:∀(j:Nat) t v,Tryz.f3.params[j]? = some t→args[j]? = some v→Value.okWide Tryz.prog W .any base t v)
 (hA:DataW.TrodAll enc Tryz.prog W 0 (fun _=>true) true Tryz.f3.params.toList args.toList ds p) (hlt:∀x∈p,x.block < W.heap.size) :
 Calls Tryz.prog 3 args W fun e W'=>e = .returned (.bool true)∧Below W.heap.size W W':=by
 rw [Tryz.params3] at hA hval;obtain ⟨v0,JM,d0,ds0,p0,q0,hargs,rfl,rfl,h0,r0⟩:=trodAll_cons hA;obtain ⟨rfl,rfl,rfl⟩:=trodAll_nil r0;obtain rfl:args = #[v0]:=by cases args;simp_all
 have hv0:=hval 0 31 v0 rfl rfl;obtain ⟨cs,rfl,_⟩:=okWide_struct Tryz.underlying31 hv0;clear hv0;obtain ⟨fuel,hf⟩:=h0;obtain ⟨x,F,hr⟩:=agU H enc W 0 fuel _ _ _ _ hf;exact walk x cs.toList F W hr
theorem own:ownKnob Tryz.prog.godebug = none:=by kernel_rfl
theorem laid:laidOutB Tryz.prog = true:=by kernel_rfl
theorem readable:∀t∈Tryz.f3.params.toList,Tryz.prog.readableRec t = true∧t < Tryz.prog.types.size:=by
 have h:(Tryz.f3.params.toList.all fun t=>Tryz.prog.readableRec t&&decide (t < Tryz.prog.types.size)) = true:=by kernel_rfl
 intro t ht;have:=List.all_eq_true.1 h t ht;simpa using this
theorem fF {H:Type} {enc:TypeId × Value→H} {W:World} {args:List Value} {ds:List (DataW H)} {p:List MemPlace}
 (h:DataW.TrodAll enc Tryz.prog W 0 (fun _=>true) true Tryz.f3.params.toList args ds p):∃d0,ds = [d0]:=by
 rw [Tryz.params3] at h;obtain ⟨v0,JM,d0,ds0,p0,q0,_,rfl,_,_,r0⟩:=trodAll_cons h;obtain ⟨_,rfl,_⟩:=trodAll_nil r0;exact ⟨d0,rfl⟩
theorem lifted (os:Os) (started:os.Started) (H:Type) (enc:TypeId × Value→H) :
 ReturnsInHanded {} Tryz.checked os 3 .any (Rows.fnExactManifestNormalSpec.pre6 enc Tryz.prog Tryz.f3 Rows.fnExactManifestNormalRow.domain false) (Rows.fnExactManifestNormalSpec.post enc Tryz.prog Tryz.f3 false true false false):=by
 refine returnsInHanded_of_change (C:=Tryz.checked) own started U' Tryz.func3
  (ChangeSpec.witness6 (enc:=enc) (C:=Tryz.checked) false ⟨#[],#[.agg #[.int .i64 0,.string ⟨#[]⟩,.slice none 0 0,.int .i64 0,.int .i64 0,.int .i64 0,.slice none 0 0,.slice none 0 0,.string ⟨#[]⟩,.slice none 0 0,.int .i64 0,.int .i64 0,.int .i64 0,.slice none 0 0]],[]⟩ 8 U' U' U' U') ?_
 intro W base args ds gs before hval0 hW hcnd _;have hlt:∀x∈before,x.block < W.heap.size:=fun x hx=>hW.lt x hx;have hW':=hW;obtain ⟨p,q,hA,hV,rfl,_,_⟩:=hW';exact (gX W base args ds p hval0 hA (fun x hx=>hlt x (List.mem_append_left _ hx))).mono fun e W' ⟨he,hb⟩ =>
  ⟨_,he,nO laid readable rfl Tryz.underlying4 rfl auW hW hb⟩
theorem over:Rows.fnExactManifestNormalRow.holds Tryz.pinned (OpenSpec.ofChange Rows.fnExactManifestNormalSpec) :=
 OpenClaim.holds_of_wide 3 Tryz.f3 rfl rfl rfl rfl rfl rfl rfl ⟨rfl,rfl,rfl,rfl,rfl⟩ rfl rfl rfl rfl rfl U' Tryz.func3 U'
  (of_decide_eq_true U') auf
  (fun os started H enc _=>lifted os started H enc)
theorem proved:Rows.FnExactManifestNormalSaid :=
 over
#print axioms proved
end Go.Proofs.YtnedlmlpeplnfaaGreat.fnExactManifestNormal
