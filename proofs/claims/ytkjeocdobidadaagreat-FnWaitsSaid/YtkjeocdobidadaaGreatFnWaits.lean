/- FnWaits: for all bytes: the pods that wait in the drawn cluster are listed once, in order; all others stand on a host. No condition. -/
import Derived.Test.YtkjeocdobidadaaGreatDrawC
import Derived.Test.YtkjeocdobidadaaGreatHostNormP
import Derived.Test.YtkjeocdobidadaaGreatWaitC
import Derived.Test.YtkjeocdobidadaaGreatWaitS
import Derived.Test.YtkjeocdobidadaaGreatClusterI
import Derived.Test.YtkjeocdobidadaaGreatLabelsOk
import Derived.Test.YtkjeocdobidadaaGreatToBase
import Derived.StillTailTactics
namespace Go.Proofs.YtkjeocdobidadaaGreat.fnWaits
open Go.ChangeShapes Go.WideShapes Go.ChangeAt Go.RowKit
set_option linter.unusedVariables false
set_option linter.unusedSimpArgs false
set_option maxHeartbeats 8000000
set_option maxRecDepth 100000
theorem walk (xs:List UInt8) (A:Option Addr) (cap:Nat) (F:List Nat) (w:World) (h:Sl w xs A cap F) :
 Calls Tryz.prog 6 #[.slice A xs.length cap] w fun e w'=>e = .returned (.bool true)∧Below w.heap.size w w':=by
 have hsrc:=I' (bytes_src h);clear h;by_cases hbig:(1048576:Int) < xs.length
 ·have hd:decide ((1048576:Int) < xs.length) = true:=by simpa using hbig
  have HD:=I' hd;clear hd hbig;go_enter Tryz.func6,Tryz.ntmps6;go_wp2_with fail
  refine (big_any _ _ _ _).mono ?_;rw [HD.out];rintro e w1 ⟨rfl,hb1⟩;go_wp2;go_ret
  exact ⟨rfl,hb1⟩
 ·have hd:decide ((1048576:Int) < xs.length) = false:=by simpa using hbig
  have HD:=I' hd;have HN:=I' (show (xs.length:Int)≤1048576 by omega);clear hd hbig;go_enter Tryz.func6,Tryz.ntmps6;go_wp2_with fail
  refine (big_any _ _ _ _).mono ?_;rw [HD.out];rintro e w1 ⟨rfl,hb1⟩;go_wp2_with fail
  refine (DrawCluster_any _ A xs.length cap HN.out (fun k hk=>?_)).mono ?_
  ·obtain ⟨g,o,v,e,hg,hv,hv0⟩:=hsrc.out k hk;exact ⟨g,o,v,e,Nat.lt_of_lt_of_le hg hb1.size,(hb1.cell (p:=⟨g,o+k,none⟩) hg).trans hv,hv0⟩
  rintro e w2 ⟨x,cs,G,rfl,hO,hG,hb2⟩;have hB2:Below w.heap.size w w2:=ah hb1 hb2;have hR:=hO.rd;obtain ⟨Ahostsx,chostsx,Fhostsx,Apodsx,cpodsx,Fpodsx,hck,hGx,hhostsx,hpodsx,hnextx,hweightspackx,hweightsspreadx,hweightssoftx⟩:=aO hR;subst hck;clear hGx hR;have HG:=I' hG;have Ji:=I' (show (x.au.length:Int)≤1048576 by have:=hG.p12;omega);have HB2:=I' hB2;clear hsrc hb1 hb2 hG hB2 HN HD;try dsimp only
  iterate 5 go_step
  refine wp_storeB 29 _ _ rfl w2.heap.size 0 [.slice Ahostsx x.hosts.length chostsx,.slice Apodsx x.au.length cpodsx,.int .i64 x.next,.int .i64 x.weights.pack,.int .i64 x.weights.spread,.int .i64 x.weights.soft] [.slice none 0 0,.slice none 0 0,.int .i64 0,.int .i64 0,.int .i64 0,.int .i64 0] rfl rfl (oG.new w2 _ 29) S' U' aub ?_;intro w3 Y3 O3;replace Y3:oG w3 w2.heap.size [.slice Ahostsx x.hosts.length chostsx,.slice Apodsx x.au.length cpodsx,.int .i64 x.next,.int .i64 x.weights.pack,.int .i64 x.weights.spread,.int .i64 x.weights.soft]:=Y3;have hz3:w3.heap.size = w2.heap.size+1:=by rw [O3.size];simp
  have HGL:=I' hO.lt;have HO3:=I' ((hO.alloc (.cells ([.slice none 0 0,.slice none 0 0,.int .i64 0,.int .i64 0,.int .i64 0,.int .i64 0]:List Value).toArray 29)).only O3 (fun b hb=>by have:=HGL.out b hb;omega));have HB3:=I' (ext_only (ak HB2.out (.cells ([.slice none 0 0,.slice none 0 0,.int .i64 0,.int .i64 0,.int .i64 0,.int .i64 0]:List Value).toArray 29)) O3 (by have:=HB2.out.size;omega));have HZ3:=I' hz3;have HY3:=I' Y3;have kY3_0:=Y3.cell (i:=0) rfl;have fY3_0:=Y3.fz 0;have kY3_1:=Y3.cell (i:=1) rfl;have fY3_1:=Y3.fz 1;have kY3_2:=Y3.cell (i:=2) rfl;have fY3_2:=Y3.fz 2;have kY3_3:=Y3.cell (i:=3) rfl;have fY3_3:=Y3.fz 3;have kY3_4:=Y3.cell (i:=4) rfl;have fY3_4:=Y3.fz 4;have kY3_5:=Y3.cell (i:=5) rfl;have fY3_5:=Y3.fz 5;clear hO O3 HB2 Y3 hz3;go_wp2_with fail
  refine (abR x _ _ w3 HO3.out.rd Ji.out).mono ?_;rintro e w4 ⟨Aw,cw,Gw,rfl,hOw,hb4⟩;have HOw4:=I' hOw;have HO4:=I' (HO3.out.ext hb4);have HB4:=I' (ah HB3.out hb4);have Y4:=HY3.out.ext hb4;have HY4:=I' Y4;have Wy:=hb4.size;rw [HZ3.out] at Wy;clear kY3_0 fY3_0 kY3_1 fY3_1 kY3_2 fY3_2 kY3_3 fY3_3 kY3_4 fY3_4 kY3_5 fY3_5;have kY4_0:=Y4.cell (i:=0) rfl;have fY4_0:=Y4.fz 0;have kY4_1:=Y4.cell (i:=1) rfl;have fY4_1:=Y4.fz 1;have kY4_2:=Y4.cell (i:=2) rfl;have fY4_2:=Y4.fz 2;have kY4_3:=Y4.cell (i:=3) rfl;have fY4_3:=Y4.fz 3;have kY4_4:=Y4.cell (i:=4) rfl;have fY4_4:=Y4.fz 4;have kY4_5:=Y4.cell (i:=5) rfl;have fY4_5:=Y4.fz 5;clear hOw hb4 HO3 HB3 HY3 Y4;go_wp2_with fail
  refine (akH x _ _ w4 HO4.out.rd Ji.out).mono ?_;rintro e w5 ⟨Av,cv,Gv,rfl,hOv,hb5⟩;have HOv5:=I' hOv;have HOw5:=I' (HOw4.out.ext hb5);have HO5:=I' (HO4.out.ext hb5);have HB5:=I' (ah HB4.out hb5);have Y5:=HY4.out.ext hb5;have HY5:=I' Y5;have Es:=hb5.size;clear kY4_0 fY4_0 kY4_1 fY4_1 kY4_2 fY4_2 kY4_3 fY4_3 kY4_4 fY4_4 kY4_5 fY4_5;have kY5_0:=Y5.cell (i:=0) rfl;have fY5_0:=Y5.fz 0;have kY5_1:=Y5.cell (i:=1) rfl;have fY5_1:=Y5.fz 1;have kY5_2:=Y5.cell (i:=2) rfl;have fY5_2:=Y5.fz 2;have kY5_3:=Y5.cell (i:=3) rfl;have fY5_3:=Y5.fz 3;have kY5_4:=Y5.cell (i:=4) rfl;have fY5_4:=Y5.fz 4;have kY5_5:=Y5.cell (i:=5) rfl;have fY5_5:=Y5.fz 5;clear hOv hb5 HO4 HB4 HY4 Y5 HOw4;have hwl:=ap3 x.au;have HLL:=I' hwl;go_wp2_with fail
  refine (sameTexts_any (GI x.au) Aw Av cw cv _ _ w5 HOw5.out.rd HOv5.out.rd (by have:=Ji.out;omega)).mono ?_;rintro e w6 ⟨rfl,hb6⟩;have HOw6:=I' (HOw5.out.ext hb6);have HX6:=I' (HO5.out.ext hb6);have HB6:=I' (ah HB5.out hb6);have Y6:=HY5.out.ext hb6;have HY6:=I' Y6;have hz6:=hb6.size;clear kY5_0 fY5_0 kY5_1 fY5_1 kY5_2 fY5_2 kY5_3 fY5_3 kY5_4 fY5_4 kY5_5 fY5_5;clear hb6 HO5 HB5 HY5 Y6 HOw5 HOv5 hwl;go_wp2_with fail
  obtain ⟨FH,FP,hSH,hSP⟩:=rd_parts HX6.out.rd;have HSH:=I' hSH;have Ob:=I' hSP;clear hSH hSP;have hlen:(GI x.au).length≤12:=by have:=HLL.out;have:=HG.out.p12;omega
  go_loopw [5] (fun i wr=>∃k:Nat,i = .int .i64 ((k:Int)+1)∧k≤(GI x.au).length∧Below w6.heap.size w6 wr) (fun i _=>(GI x.au).length+1 - (intOf i).toNat)
  case atStart=>exact ⟨0,rfl,O',aj _⟩
  case round =>
   obtain ⟨k,rfl,hk2,hbl⟩:=hrel;have HBLwr:=I' hbl;clear hbl;by_cases hlt:k+1 < (GI x.au).length
   ·obtain ⟨j,hj,ej,nj,hoj⟩:=wait_at HG.out (i:=k) O';obtain ⟨l,hl,el,nl,hol⟩:=wait_at HG.out (i:=k+1) hlt;obtain ⟨hr1,hr2⟩:=wait_order HG.out hlt hj hl nj nl;have HR1:=I' hr1;have HR2:=I' hr2;obtain ⟨bw,ow,ckw,Fkw,hAw,_,hbw,hrw,_,hcw⟩:=Sl.get (show Sl w6 (GI x.au) Aw cw Gw from HOw6.out.rd) (k:=k) O';obtain ⟨bw',ow',ckw',Fkw',hAw',_,hbw',hrw',_,hcw'⟩:=Sl.get (show Sl w6 (GI x.au) Aw cw Gw from HOw6.out.rd) (k:=k+1) hlt;subst hAw;simp only [Option.some.injEq,Addr.mk.injEq,and_true] at hAw';obtain ⟨rfl,rfl⟩:=hAw';have c1:=hcw 0 (.string (GI x.au)[k]) (by rw [hrw.1];rfl);have c2:=hcw' 0 (.string (GI x.au)[k+1]) (by rw [hrw'.1];rfl);rw [show ow+(k * Dat.size ByteArray+0) = ow+k by show ow+(k * 1+0) = ow+k;omega] at c1;rw [show ow+((k+1) * Dat.size ByteArray+0) = ow+(k+1) by show ow+((k+1) * 1+0) = ow+(k+1);omega] at c2;obtain ⟨s1,e1⟩:∃s,(GI x.au)[k] = s:=⟨_,rfl⟩;obtain ⟨s2,e2⟩:∃s,(GI x.au)[k+1] = s:=⟨_,rfl⟩;rw [e1] at c1 ej;rw [e2] at c2 el;have HIp:=I' ej;have HIq:=I' el;have HC1:=I' c1;have HC2:=I' c2;have HBW:=I' hbw;obtain ⟨bp,op,ckp,Fkp,hAp,_,hblp,QS,_,hcp⟩:=Ob.out.get hj;obtain ⟨bq,oq,ckq,Fkq,hAq,_,hblq,hrq,_,hcq2⟩:=Ob.out.get hl;subst hAp;simp only [Option.some.injEq,Addr.mk.injEq,and_true] at hAq;obtain ⟨rfl,rfl⟩:=hAq;obtain ⟨Apodlabelsp,cpodlabelsp,Fpodlabelsp,Apodneedsp,cpodneedsp,Fpodneedsp,Apodtolerancesp,cpodtolerancesp,Fpodtolerancesp,hck,hFp,hpodnamep,hpodlabelsp,hpodcpup,hpodmemp,hpodrankp,hpodneedsp,hpodtolerancesp,honp,hseqp⟩:=kE QS;subst hck;obtain ⟨Apodlabelsq,cpodlabelsq,Fpodlabelsq,Apodneedsq,cpodneedsq,Fpodneedsq,Apodtolerancesq,cpodtolerancesq,Fpodtolerancesq,hck,hFq,hpodnameq,hpodlabelsq,hpodcpuq,hpodmemq,hpodrankq,hpodneedsq,hpodtolerancesq,honq,hseqq⟩:=kE hrq;subst hck;have HCP:=I' hcp;have HCQ:=I' hcq2;have HBP:=I' hblp;have hji:(j:Int) < x.au.length:=O';have hli:(l:Int) < x.au.length:=O';have hki:(k:Int)+1 < (GI x.au).length:=O';have hki2:(k:Int) < (GI x.au).length:=O';have hwrk:IntKind.i64.wrap (k:Int) = k:=(by rw [IntKind.wrap_i64];omega);have hkt:((k:Int)+1).toNat = k+1:=O';have hcap:=(show Sl w6 (GI x.au) (some ⟨bw,ow,none⟩) cw Gw from HOw6.out.rd).cap;have hcapp:=Ob.out.cap;clear hoj hol hrw hrw' hcw hcw' c1 c2 e1 e2 ej el nj nl hr1 hr2 QS hrq hcp hcq2 hblp hblq hbw hbw' hFp hFq;have HXwr:=I' (HX6.out.ext HBLwr.out);have hzswr:=HBLwr.out.size;have hzxwr:w2.heap.size < wr.heap.size:=O';have hzwwr:bw < wr.heap.size:=(by have:=HBW.out;omega);have hzpwr:bp < wr.heap.size:=(by have:=HBP.out;omega);have Ywr:=HY6.out.ext HBLwr.out;have kYwr_0:=Ywr.cell (i:=0) rfl;have fYwr_0:=Ywr.fz 0;have kYwr_1:=Ywr.cell (i:=1) rfl;have fYwr_1:=Ywr.fz 1;have kYwr_2:=Ywr.cell (i:=2) rfl;have fYwr_2:=Ywr.fz 2;have kYwr_3:=Ywr.cell (i:=3) rfl;have fYwr_3:=Ywr.fz 3;have kYwr_4:=Ywr.cell (i:=4) rfl;have fYwr_4:=Ywr.fz 4;have kYwr_5:=Ywr.cell (i:=5) rfl;have fYwr_5:=Ywr.fz 5;clear Ywr;have nwr1:wr.cell? ⟨bw,ow+k,none⟩ = some (.string s1):=(HBLwr.out.cell (p:=⟨bw,ow+k,none⟩) HBW.out).trans HC1.out;have nwr2:wr.cell? ⟨bw,ow+(k+1),none⟩ = some (.string s2):=(HBLwr.out.cell (p:=⟨bw,ow+(k+1),none⟩) HBW.out).trans HC2.out;have mwrp0:wr.cell? ⟨bp,op+j * 9,none⟩ = some (.string x.au[j].aS.name):=(by have h0:=HCP.out 0 _ rfl;exact (HBLwr.out.cell (p:=⟨bp,op+j * 9,none⟩) HBP.out).trans (by rwa [show op+(j * Dat.size Placed+0) = op+j * 9 by show op+(j * 9+0) = _;omega] at h0));have mwrp1:wr.cell? ⟨bp,op+j * 9+1,none⟩ = some (.slice Apodlabelsp x.au[j].aS.labels.length cpodlabelsp):=(by have h0:=HCP.out 1 _ rfl;exact (HBLwr.out.cell (p:=⟨bp,op+j * 9+1,none⟩) HBP.out).trans (by rwa [show op+(j * Dat.size Placed+1) = op+j * 9+1 by show op+(j * 9+1) = _;omega] at h0));have mwrp2:wr.cell? ⟨bp,op+j * 9+2,none⟩ = some (.int .i64 x.au[j].aS.cpu):=(by have h0:=HCP.out 2 _ rfl;exact (HBLwr.out.cell (p:=⟨bp,op+j * 9+2,none⟩) HBP.out).trans (by rwa [show op+(j * Dat.size Placed+2) = op+j * 9+2 by show op+(j * 9+2) = _;omega] at h0));have mwrp3:wr.cell? ⟨bp,op+j * 9+3,none⟩ = some (.int .i64 x.au[j].aS.mem):=(by have h0:=HCP.out 3 _ rfl;exact (HBLwr.out.cell (p:=⟨bp,op+j * 9+3,none⟩) HBP.out).trans (by rwa [show op+(j * Dat.size Placed+3) = op+j * 9+3 by show op+(j * 9+3) = _;omega] at h0));have mwrp4:wr.cell? ⟨bp,op+j * 9+4,none⟩ = some (.int .i64 x.au[j].aS.rank):=(by have h0:=HCP.out 4 _ rfl;exact (HBLwr.out.cell (p:=⟨bp,op+j * 9+4,none⟩) HBP.out).trans (by rwa [show op+(j * Dat.size Placed+4) = op+j * 9+4 by show op+(j * 9+4) = _;omega] at h0));have mwrp5:wr.cell? ⟨bp,op+j * 9+5,none⟩ = some (.slice Apodneedsp x.au[j].aS.needs.length cpodneedsp):=(by have h0:=HCP.out 5 _ rfl;exact (HBLwr.out.cell (p:=⟨bp,op+j * 9+5,none⟩) HBP.out).trans (by rwa [show op+(j * Dat.size Placed+5) = op+j * 9+5 by show op+(j * 9+5) = _;omega] at h0));have mwrp6:wr.cell? ⟨bp,op+j * 9+6,none⟩ = some (.slice Apodtolerancesp x.au[j].aS.tolerances.length cpodtolerancesp):=(by have h0:=HCP.out 6 _ rfl;exact (HBLwr.out.cell (p:=⟨bp,op+j * 9+6,none⟩) HBP.out).trans (by rwa [show op+(j * Dat.size Placed+6) = op+j * 9+6 by show op+(j * 9+6) = _;omega] at h0));have mwrp7:wr.cell? ⟨bp,op+j * 9+7,none⟩ = some (.string x.au[j].on):=(by have h0:=HCP.out 7 _ rfl;exact (HBLwr.out.cell (p:=⟨bp,op+j * 9+7,none⟩) HBP.out).trans (by rwa [show op+(j * Dat.size Placed+7) = op+j * 9+7 by show op+(j * 9+7) = _;omega] at h0));have mwrp8:wr.cell? ⟨bp,op+j * 9+8,none⟩ = some (.int .i64 x.au[j].seq):=(by have h0:=HCP.out 8 _ rfl;exact (HBLwr.out.cell (p:=⟨bp,op+j * 9+8,none⟩) HBP.out).trans (by rwa [show op+(j * Dat.size Placed+8) = op+j * 9+8 by show op+(j * 9+8) = _;omega] at h0));have mwrq0:wr.cell? ⟨bp,op+l * 9,none⟩ = some (.string x.au[l].aS.name):=(by have h0:=HCQ.out 0 _ rfl;exact (HBLwr.out.cell (p:=⟨bp,op+l * 9,none⟩) HBP.out).trans (by rwa [show op+(l * Dat.size Placed+0) = op+l * 9 by show op+(l * 9+0) = _;omega] at h0));have mwrq1:wr.cell? ⟨bp,op+l * 9+1,none⟩ = some (.slice Apodlabelsq x.au[l].aS.labels.length cpodlabelsq):=(by have h0:=HCQ.out 1 _ rfl;exact (HBLwr.out.cell (p:=⟨bp,op+l * 9+1,none⟩) HBP.out).trans (by rwa [show op+(l * Dat.size Placed+1) = op+l * 9+1 by show op+(l * 9+1) = _;omega] at h0));have mwrq2:wr.cell? ⟨bp,op+l * 9+2,none⟩ = some (.int .i64 x.au[l].aS.cpu):=(by have h0:=HCQ.out 2 _ rfl;exact (HBLwr.out.cell (p:=⟨bp,op+l * 9+2,none⟩) HBP.out).trans (by rwa [show op+(l * Dat.size Placed+2) = op+l * 9+2 by show op+(l * 9+2) = _;omega] at h0));have mwrq3:wr.cell? ⟨bp,op+l * 9+3,none⟩ = some (.int .i64 x.au[l].aS.mem):=(by have h0:=HCQ.out 3 _ rfl;exact (HBLwr.out.cell (p:=⟨bp,op+l * 9+3,none⟩) HBP.out).trans (by rwa [show op+(l * Dat.size Placed+3) = op+l * 9+3 by show op+(l * 9+3) = _;omega] at h0));have mwrq4:wr.cell? ⟨bp,op+l * 9+4,none⟩ = some (.int .i64 x.au[l].aS.rank):=(by have h0:=HCQ.out 4 _ rfl;exact (HBLwr.out.cell (p:=⟨bp,op+l * 9+4,none⟩) HBP.out).trans (by rwa [show op+(l * Dat.size Placed+4) = op+l * 9+4 by show op+(l * 9+4) = _;omega] at h0));have mwrq5:wr.cell? ⟨bp,op+l * 9+5,none⟩ = some (.slice Apodneedsq x.au[l].aS.needs.length cpodneedsq):=(by have h0:=HCQ.out 5 _ rfl;exact (HBLwr.out.cell (p:=⟨bp,op+l * 9+5,none⟩) HBP.out).trans (by rwa [show op+(l * Dat.size Placed+5) = op+l * 9+5 by show op+(l * 9+5) = _;omega] at h0));have mwrq6:wr.cell? ⟨bp,op+l * 9+6,none⟩ = some (.slice Apodtolerancesq x.au[l].aS.tolerances.length cpodtolerancesq):=(by have h0:=HCQ.out 6 _ rfl;exact (HBLwr.out.cell (p:=⟨bp,op+l * 9+6,none⟩) HBP.out).trans (by rwa [show op+(l * Dat.size Placed+6) = op+l * 9+6 by show op+(l * 9+6) = _;omega] at h0));have mwrq7:wr.cell? ⟨bp,op+l * 9+7,none⟩ = some (.string x.au[l].on):=(by have h0:=HCQ.out 7 _ rfl;exact (HBLwr.out.cell (p:=⟨bp,op+l * 9+7,none⟩) HBP.out).trans (by rwa [show op+(l * Dat.size Placed+7) = op+l * 9+7 by show op+(l * 9+7) = _;omega] at h0));have mwrq8:wr.cell? ⟨bp,op+l * 9+8,none⟩ = some (.int .i64 x.au[l].seq):=(by have h0:=HCQ.out 8 _ rfl;exact (HBLwr.out.cell (p:=⟨bp,op+l * 9+8,none⟩) HBP.out).trans (by rwa [show op+(l * Dat.size Placed+8) = op+l * 9+8 by show op+(l * 9+8) = _;omega] at h0));go_wp2_with fail
    refine zU wr 13 U' U' (aj _) ?_;refine YU (fun a0 a' w'=>∃(pp:Nat) (vp0 vp1 vp2 vp3 vp4 vp5 vp6 vp7 vp8 vp9 vp10:Value),a' = (Act.put (Act.put (Act.put (Act.put (Act.put (Act.put (Act.put (Act.put (Act.put (Act.put (Act.put (Act.put a0 (some 27) vp0) (some 28) vp1) (some 29) vp2) (some 30) vp3) (some 31) vp4) (some 32) vp5) (some 33) vp6) (some 34) vp7) (some 35) vp8) (some 36) vp9) (some 37) vp10) (some 6) (.pointer (some ⟨pp,0,none⟩)))∧Below wr.heap.size wr w'∧wr.heap.size≤pp∧oG w' pp [.string x.au[j].aS.name,.slice Apodlabelsp x.au[j].aS.labels.length cpodlabelsp,.int .i64 x.au[j].aS.cpu,.int .i64 x.au[j].aS.mem,.int .i64 x.au[j].aS.rank,.slice Apodneedsp x.au[j].aS.needs.length cpodneedsp,.slice Apodtolerancesp x.au[j].aS.tolerances.length cpodtolerancesp,.string x.au[j].on,.int .i64 x.au[j].seq]) ?_ ?_;rotate_left
    ·intro HK;have hbx:Below wr.heap.size wr wr.drew:=aA (aj _)
     refine aX 0 _ J' U' (fun _ _ d _ _ h=>by cases d <;> exact h) hbx (Or.inl ⟨rfl,fun wq hq=>by
      have hcq:=(aB hq).1;go_simp
      try rfl⟩) ?_
     try simp only [Act.put,pz]
     refine aX 1 _ J' U' (fun _ _ d _ _ h=>by cases d <;> exact h) hbx (Or.inl ⟨rfl,fun wq hq=>by
      have hcq:=(aB hq).1;go_simp
      try rfl⟩) ?_
     try simp only [Act.put,pz]
     refine aX 2 _ J' U' (fun _ _ d _ _ h=>by cases d <;> exact h) hbx (Or.inl ⟨rfl,fun wq hq=>by
      have hcq:=(aB hq).1;go_simp
      try rfl⟩) ?_
     try simp only [Act.put,pz]
     refine aX 3 _ J' U' (fun _ _ d _ _ h=>by cases d <;> exact h) hbx (Or.inl ⟨rfl,fun wq hq=>by
      have hcq:=(aB hq).1;go_simp
      try rfl⟩) ?_
     try simp only [Act.put,pz]
     refine aX 4 _ J' U' (fun _ _ d _ _ h=>by cases d <;> exact h) hbx (Or.inl ⟨rfl,fun wq hq=>by
      have hcq:=(aB hq).1;go_simp
      try rfl⟩) ?_
     try simp only [Act.put,pz]
     refine aX 5 _ J' U' (fun _ _ d _ _ h=>by cases d <;> exact h) hbx (Or.inl ⟨rfl,fun wq hq=>by
      have hcq:=(aB hq).1;go_simp
      try rfl⟩) ?_
     try simp only [Act.put,pz]
     refine aX 6 _ J' U' (fun _ _ d _ _ h=>by cases d <;> exact h) hbx (Or.inl ⟨rfl,fun wq hq=>by
      have hcq:=(aB hq).1;go_simp
      try rfl⟩) ?_
     try simp only [Act.put,pz]
     refine aX 7 _ J' U' (fun _ _ d _ _ h=>by cases d <;> exact h) hbx (Or.inl ⟨rfl,fun wq hq=>by
      have hcq:=(aB hq).1;go_simp
      try rfl⟩) ?_
     try simp only [Act.put,pz]
     refine D7 8 11 J' J' U' J' J' (fun K hK=>?_) (fun K hK=>?_)
     ·go_simp;refine (aaj x _ _ s1 _ (HXwr.out.rdx hbx) Ji.out).mono ?_;rw [HIp.out];rintro e wc ⟨rfl,hbc⟩;replace hbx:=ah hbx hbc;refine hK _ _ hbx ?_;try simp only [Act.put,pz]
      clear hK K
      refine aX 9 _ J' U' (fun _ _ d _ _ h=>by cases d <;> exact h) hbx (Or.inl ⟨rfl,fun wq hq=>by
       have hcq:=(aB hq).1;go_simp
       try rfl⟩) ?_
      try simp only [Act.put,pz]
      refine aX 10 _ J' U' (fun _ _ d _ _ h=>by cases d <;> exact h) hbx (Or.inl ⟨rfl,fun wq hq=>by
       have hcq:=(aB hq).1;go_simp
       try rfl⟩) ?_
      try simp only [Act.put,pz]
      refine bP 11 J' U' J' (fun K hK=>?_);go_simp;refine hK _ _ (ak hbx _) ?_;try simp only [Act.put,pz]
      clear hK K;have hpb:wr.heap.size≤wc.heap.size:=hbx.size;have HPB:=oG.new wc [.string ⟨#[]⟩,.slice none 0 0,.int .i64 0,.int .i64 0,.int .i64 0,.slice none 0 0,.slice none 0 0,.string ⟨#[]⟩,.int .i64 0] 53;replace hbx:=ak hbx (.cells ([.string ⟨#[]⟩,.slice none 0 0,.int .i64 0,.int .i64 0,.int .i64 0,.slice none 0 0,.slice none 0 0,.string ⟨#[]⟩,.int .i64 0]:List Value).toArray 53);exact Zabt
     ·go_simp;refine hK _ _ (ak hbx _) ?_;try simp only [Act.put,pz]
      clear hK K;have hpb:wr.heap.size≤wr.drew.heap.size:=hbx.size;have HPB0:=oG.new wr.drew [.string ⟨#[]⟩,.slice none 0 0,.int .i64 0,.int .i64 0,.int .i64 0,.slice none 0 0,.slice none 0 0,.string ⟨#[]⟩,.int .i64 0] 53;replace hbx:=ak hbx (.cells ([.string ⟨#[]⟩,.slice none 0 0,.int .i64 0,.int .i64 0,.int .i64 0,.slice none 0 0,.slice none 0 0,.string ⟨#[]⟩,.int .i64 0]:List Value).toArray 53);refine bP 8 J' U' J' (fun K hK=>?_);go_simp;refine (aaj x _ _ s1 _ (HXwr.out.rdx hbx) Ji.out).mono ?_;rw [HIp.out];rintro e wc ⟨rfl,hbc⟩;have HPB:=HPB0.ext hbc;replace hbx:=ah hbx hbc;refine hK _ _ hbx ?_;try simp only [Act.put,pz]
      clear hK K
      refine aX 9 _ J' U' (fun _ _ d _ _ h=>by cases d <;> exact h) hbx (Or.inl ⟨rfl,fun wq hq=>by
       have hcq:=(aB hq).1;go_simp
       try rfl⟩) ?_
      try simp only [Act.put,pz]
      refine aX 10 _ J' U' (fun _ _ d _ _ h=>by cases d <;> exact h) hbx (Or.inl ⟨rfl,fun wq hq=>by
       have hcq:=(aB hq).1;go_simp
       try rfl⟩) ?_
      try simp only [Act.put,pz]
      exact Zabt
    clear mwrp0 mwrq0 mwrp1 mwrq1 mwrp2 mwrq2 mwrp3 mwrq3 mwrp4 mwrq4 mwrp5 mwrq5 mwrp6 mwrq6 mwrp7 mwrq7 mwrp8 mwrq8 nwr1 nwr2 hzswr hzxwr hzwwr hzpwr kYwr_0 fYwr_0 kYwr_1 fYwr_1 kYwr_2 fYwr_2 kYwr_3 fYwr_3 kYwr_4 fYwr_4 kYwr_5 fYwr_5;rintro _ w7 ⟨pp,vp0,vp1,vp2,vp3,vp4,vp5,vp6,vp7,vp8,vp9,vp10,rfl,hb7,hpp,YP⟩;have HBLw7:=I' (ah HBLwr.out hb7);have HXw7:=I' (HX6.out.ext HBLw7.out);have HYP:=I' YP;have hz7:=hb7.size;clear HBLwr HXwr YP hb7;have hzsw7:=HBLw7.out.size;have hzxw7:w2.heap.size < w7.heap.size:=O';have hzww7:bw < w7.heap.size:=(by have:=HBW.out;omega);have hzpw7:bp < w7.heap.size:=(by have:=HBP.out;omega);have Yw7:=HY6.out.ext HBLw7.out;have kYw7_0:=Yw7.cell (i:=0) rfl;have fYw7_0:=Yw7.fz 0;have kYw7_1:=Yw7.cell (i:=1) rfl;have fYw7_1:=Yw7.fz 1;have kYw7_2:=Yw7.cell (i:=2) rfl;have fYw7_2:=Yw7.fz 2;have kYw7_3:=Yw7.cell (i:=3) rfl;have fYw7_3:=Yw7.fz 3;have kYw7_4:=Yw7.cell (i:=4) rfl;have fYw7_4:=Yw7.fz 4;have kYw7_5:=Yw7.cell (i:=5) rfl;have fYw7_5:=Yw7.fz 5;clear Yw7;have nw71:w7.cell? ⟨bw,ow+k,none⟩ = some (.string s1):=(HBLw7.out.cell (p:=⟨bw,ow+k,none⟩) HBW.out).trans HC1.out;have nw72:w7.cell? ⟨bw,ow+(k+1),none⟩ = some (.string s2):=(HBLw7.out.cell (p:=⟨bw,ow+(k+1),none⟩) HBW.out).trans HC2.out;have mw7p0:w7.cell? ⟨bp,op+j * 9,none⟩ = some (.string x.au[j].aS.name):=(by have h0:=HCP.out 0 _ rfl;exact (HBLw7.out.cell (p:=⟨bp,op+j * 9,none⟩) HBP.out).trans (by rwa [show op+(j * Dat.size Placed+0) = op+j * 9 by show op+(j * 9+0) = _;omega] at h0));have mw7p1:w7.cell? ⟨bp,op+j * 9+1,none⟩ = some (.slice Apodlabelsp x.au[j].aS.labels.length cpodlabelsp):=(by have h0:=HCP.out 1 _ rfl;exact (HBLw7.out.cell (p:=⟨bp,op+j * 9+1,none⟩) HBP.out).trans (by rwa [show op+(j * Dat.size Placed+1) = op+j * 9+1 by show op+(j * 9+1) = _;omega] at h0));have mw7p2:w7.cell? ⟨bp,op+j * 9+2,none⟩ = some (.int .i64 x.au[j].aS.cpu):=(by have h0:=HCP.out 2 _ rfl;exact (HBLw7.out.cell (p:=⟨bp,op+j * 9+2,none⟩) HBP.out).trans (by rwa [show op+(j * Dat.size Placed+2) = op+j * 9+2 by show op+(j * 9+2) = _;omega] at h0));have mw7p3:w7.cell? ⟨bp,op+j * 9+3,none⟩ = some (.int .i64 x.au[j].aS.mem):=(by have h0:=HCP.out 3 _ rfl;exact (HBLw7.out.cell (p:=⟨bp,op+j * 9+3,none⟩) HBP.out).trans (by rwa [show op+(j * Dat.size Placed+3) = op+j * 9+3 by show op+(j * 9+3) = _;omega] at h0));have mw7p4:w7.cell? ⟨bp,op+j * 9+4,none⟩ = some (.int .i64 x.au[j].aS.rank):=(by have h0:=HCP.out 4 _ rfl;exact (HBLw7.out.cell (p:=⟨bp,op+j * 9+4,none⟩) HBP.out).trans (by rwa [show op+(j * Dat.size Placed+4) = op+j * 9+4 by show op+(j * 9+4) = _;omega] at h0));have mw7p5:w7.cell? ⟨bp,op+j * 9+5,none⟩ = some (.slice Apodneedsp x.au[j].aS.needs.length cpodneedsp):=(by have h0:=HCP.out 5 _ rfl;exact (HBLw7.out.cell (p:=⟨bp,op+j * 9+5,none⟩) HBP.out).trans (by rwa [show op+(j * Dat.size Placed+5) = op+j * 9+5 by show op+(j * 9+5) = _;omega] at h0));have mw7p6:w7.cell? ⟨bp,op+j * 9+6,none⟩ = some (.slice Apodtolerancesp x.au[j].aS.tolerances.length cpodtolerancesp):=(by have h0:=HCP.out 6 _ rfl;exact (HBLw7.out.cell (p:=⟨bp,op+j * 9+6,none⟩) HBP.out).trans (by rwa [show op+(j * Dat.size Placed+6) = op+j * 9+6 by show op+(j * 9+6) = _;omega] at h0));have mw7p7:w7.cell? ⟨bp,op+j * 9+7,none⟩ = some (.string x.au[j].on):=(by have h0:=HCP.out 7 _ rfl;exact (HBLw7.out.cell (p:=⟨bp,op+j * 9+7,none⟩) HBP.out).trans (by rwa [show op+(j * Dat.size Placed+7) = op+j * 9+7 by show op+(j * 9+7) = _;omega] at h0));have mw7p8:w7.cell? ⟨bp,op+j * 9+8,none⟩ = some (.int .i64 x.au[j].seq):=(by have h0:=HCP.out 8 _ rfl;exact (HBLw7.out.cell (p:=⟨bp,op+j * 9+8,none⟩) HBP.out).trans (by rwa [show op+(j * Dat.size Placed+8) = op+j * 9+8 by show op+(j * 9+8) = _;omega] at h0));have mw7q0:w7.cell? ⟨bp,op+l * 9,none⟩ = some (.string x.au[l].aS.name):=(by have h0:=HCQ.out 0 _ rfl;exact (HBLw7.out.cell (p:=⟨bp,op+l * 9,none⟩) HBP.out).trans (by rwa [show op+(l * Dat.size Placed+0) = op+l * 9 by show op+(l * 9+0) = _;omega] at h0));have mw7q1:w7.cell? ⟨bp,op+l * 9+1,none⟩ = some (.slice Apodlabelsq x.au[l].aS.labels.length cpodlabelsq):=(by have h0:=HCQ.out 1 _ rfl;exact (HBLw7.out.cell (p:=⟨bp,op+l * 9+1,none⟩) HBP.out).trans (by rwa [show op+(l * Dat.size Placed+1) = op+l * 9+1 by show op+(l * 9+1) = _;omega] at h0));have mw7q2:w7.cell? ⟨bp,op+l * 9+2,none⟩ = some (.int .i64 x.au[l].aS.cpu):=(by have h0:=HCQ.out 2 _ rfl;exact (HBLw7.out.cell (p:=⟨bp,op+l * 9+2,none⟩) HBP.out).trans (by rwa [show op+(l * Dat.size Placed+2) = op+l * 9+2 by show op+(l * 9+2) = _;omega] at h0));have mw7q3:w7.cell? ⟨bp,op+l * 9+3,none⟩ = some (.int .i64 x.au[l].aS.mem):=(by have h0:=HCQ.out 3 _ rfl;exact (HBLw7.out.cell (p:=⟨bp,op+l * 9+3,none⟩) HBP.out).trans (by rwa [show op+(l * Dat.size Placed+3) = op+l * 9+3 by show op+(l * 9+3) = _;omega] at h0));have mw7q4:w7.cell? ⟨bp,op+l * 9+4,none⟩ = some (.int .i64 x.au[l].aS.rank):=(by have h0:=HCQ.out 4 _ rfl;exact (HBLw7.out.cell (p:=⟨bp,op+l * 9+4,none⟩) HBP.out).trans (by rwa [show op+(l * Dat.size Placed+4) = op+l * 9+4 by show op+(l * 9+4) = _;omega] at h0));have mw7q5:w7.cell? ⟨bp,op+l * 9+5,none⟩ = some (.slice Apodneedsq x.au[l].aS.needs.length cpodneedsq):=(by have h0:=HCQ.out 5 _ rfl;exact (HBLw7.out.cell (p:=⟨bp,op+l * 9+5,none⟩) HBP.out).trans (by rwa [show op+(l * Dat.size Placed+5) = op+l * 9+5 by show op+(l * 9+5) = _;omega] at h0));have mw7q6:w7.cell? ⟨bp,op+l * 9+6,none⟩ = some (.slice Apodtolerancesq x.au[l].aS.tolerances.length cpodtolerancesq):=(by have h0:=HCQ.out 6 _ rfl;exact (HBLw7.out.cell (p:=⟨bp,op+l * 9+6,none⟩) HBP.out).trans (by rwa [show op+(l * Dat.size Placed+6) = op+l * 9+6 by show op+(l * 9+6) = _;omega] at h0));have mw7q7:w7.cell? ⟨bp,op+l * 9+7,none⟩ = some (.string x.au[l].on):=(by have h0:=HCQ.out 7 _ rfl;exact (HBLw7.out.cell (p:=⟨bp,op+l * 9+7,none⟩) HBP.out).trans (by rwa [show op+(l * Dat.size Placed+7) = op+l * 9+7 by show op+(l * 9+7) = _;omega] at h0));have mw7q8:w7.cell? ⟨bp,op+l * 9+8,none⟩ = some (.int .i64 x.au[l].seq):=(by have h0:=HCQ.out 8 _ rfl;exact (HBLw7.out.cell (p:=⟨bp,op+l * 9+8,none⟩) HBP.out).trans (by rwa [show op+(l * Dat.size Placed+8) = op+l * 9+8 by show op+(l * 9+8) = _;omega] at h0));go_wp2_with fail
    refine zU w7 12 U' U' (aj _) ?_;refine YU (fun a0 a' w'=>∃(pq:Nat) (vq0 vq1 vq2 vq3 vq4 vq5 vq6 vq7 vq8 vq9:Value),a' = (Act.put (Act.put (Act.put (Act.put (Act.put (Act.put (Act.put (Act.put (Act.put (Act.put (Act.put a0 (some 38) vq0) (some 39) vq1) (some 40) vq2) (some 41) vq3) (some 42) vq4) (some 43) vq5) (some 44) vq6) (some 45) vq7) (some 46) vq8) (some 47) vq9) (some 7) (.pointer (some ⟨pq,0,none⟩)))∧Below w7.heap.size w7 w'∧w7.heap.size≤pq∧oG w' pq [.string x.au[l].aS.name,.slice Apodlabelsq x.au[l].aS.labels.length cpodlabelsq,.int .i64 x.au[l].aS.cpu,.int .i64 x.au[l].aS.mem,.int .i64 x.au[l].aS.rank,.slice Apodneedsq x.au[l].aS.needs.length cpodneedsq,.slice Apodtolerancesq x.au[l].aS.tolerances.length cpodtolerancesq,.string x.au[l].on,.int .i64 x.au[l].seq]) ?_ ?_;rotate_left
    ·intro HK;have hbx:Below w7.heap.size w7 w7.drew:=aA (aj _)
     refine aX 0 _ J' U' (fun _ _ d _ _ h=>by cases d <;> exact h) hbx (Or.inl ⟨rfl,fun wq hq=>by
      have hcq:=(aB hq).1;go_simp
      try rfl⟩) ?_
     try simp only [Act.put,pz]
     refine aX 1 _ J' U' (fun _ _ d _ _ h=>by cases d <;> exact h) hbx (Or.inl ⟨rfl,fun wq hq=>by
      have hcq:=(aB hq).1;go_simp
      try rfl⟩) ?_
     try simp only [Act.put,pz]
     refine aX 2 _ J' U' (fun _ _ d _ _ h=>by cases d <;> exact h) hbx (Or.inl ⟨rfl,fun wq hq=>by
      have hcq:=(aB hq).1;go_simp
      try rfl⟩) ?_
     try simp only [Act.put,pz]
     refine aX 3 _ J' U' (fun _ _ d _ _ h=>by cases d <;> exact h) hbx (Or.inl ⟨rfl,fun wq hq=>by
      have hcq:=(aB hq).1;go_simp
      try rfl⟩) ?_
     try simp only [Act.put,pz]
     refine aX 4 _ J' U' (fun _ _ d _ _ h=>by cases d <;> exact h) hbx (Or.inl ⟨rfl,fun wq hq=>by
      have hcq:=(aB hq).1;go_simp
      try rfl⟩) ?_
     try simp only [Act.put,pz]
     refine aX 5 _ J' U' (fun _ _ d _ _ h=>by cases d <;> exact h) hbx (Or.inl ⟨rfl,fun wq hq=>by
      have hcq:=(aB hq).1;go_simp
      try rfl⟩) ?_
     try simp only [Act.put,pz]
     refine aX 6 _ J' U' (fun _ _ d _ _ h=>by cases d <;> exact h) hbx (Or.inl ⟨rfl,fun wq hq=>by
      have hcq:=(aB hq).1;go_simp
      try rfl⟩) ?_
     try simp only [Act.put,pz]
     refine D7 7 10 J' J' U' J' J' (fun K hK=>?_) (fun K hK=>?_)
     ·go_simp;refine (aaj x _ _ s2 _ (HXw7.out.rdx hbx) Ji.out).mono ?_;rw [HIq.out];rintro e wc ⟨rfl,hbc⟩;replace hbx:=ah hbx hbc;refine hK _ _ hbx ?_;try simp only [Act.put,pz]
      clear hK K
      refine aX 8 _ J' U' (fun _ _ d _ _ h=>by cases d <;> exact h) hbx (Or.inl ⟨rfl,fun wq hq=>by
       have hcq:=(aB hq).1;go_simp
       try rfl⟩) ?_
      try simp only [Act.put,pz]
      refine aX 9 _ J' U' (fun _ _ d _ _ h=>by cases d <;> exact h) hbx (Or.inl ⟨rfl,fun wq hq=>by
       have hcq:=(aB hq).1;go_simp
       try rfl⟩) ?_
      try simp only [Act.put,pz]
      refine bP 10 J' U' J' (fun K hK=>?_);go_simp;refine hK _ _ (ak hbx _) ?_;try simp only [Act.put,pz]
      clear hK K;have hpb:w7.heap.size≤wc.heap.size:=hbx.size;have HPB:=oG.new wc [.string ⟨#[]⟩,.slice none 0 0,.int .i64 0,.int .i64 0,.int .i64 0,.slice none 0 0,.slice none 0 0,.string ⟨#[]⟩,.int .i64 0] 53;replace hbx:=ak hbx (.cells ([.string ⟨#[]⟩,.slice none 0 0,.int .i64 0,.int .i64 0,.int .i64 0,.slice none 0 0,.slice none 0 0,.string ⟨#[]⟩,.int .i64 0]:List Value).toArray 53);exact Zabu
     ·go_simp;refine hK _ _ (ak hbx _) ?_;try simp only [Act.put,pz]
      clear hK K;have hpb:w7.heap.size≤w7.drew.heap.size:=hbx.size;have HPB0:=oG.new w7.drew [.string ⟨#[]⟩,.slice none 0 0,.int .i64 0,.int .i64 0,.int .i64 0,.slice none 0 0,.slice none 0 0,.string ⟨#[]⟩,.int .i64 0] 53;replace hbx:=ak hbx (.cells ([.string ⟨#[]⟩,.slice none 0 0,.int .i64 0,.int .i64 0,.int .i64 0,.slice none 0 0,.slice none 0 0,.string ⟨#[]⟩,.int .i64 0]:List Value).toArray 53);refine bP 7 J' U' J' (fun K hK=>?_);go_simp;refine (aaj x _ _ s2 _ (HXw7.out.rdx hbx) Ji.out).mono ?_;rw [HIq.out];rintro e wc ⟨rfl,hbc⟩;have HPB:=HPB0.ext hbc;replace hbx:=ah hbx hbc;refine hK _ _ hbx ?_;try simp only [Act.put,pz]
      clear hK K
      refine aX 8 _ J' U' (fun _ _ d _ _ h=>by cases d <;> exact h) hbx (Or.inl ⟨rfl,fun wq hq=>by
       have hcq:=(aB hq).1;go_simp
       try rfl⟩) ?_
      try simp only [Act.put,pz]
      refine aX 9 _ J' U' (fun _ _ d _ _ h=>by cases d <;> exact h) hbx (Or.inl ⟨rfl,fun wq hq=>by
       have hcq:=(aB hq).1;go_simp
       try rfl⟩) ?_
      try simp only [Act.put,pz]
      exact Zabu
    clear mw7p0 mw7q0 mw7p1 mw7q1 mw7p2 mw7q2 mw7p3 mw7q3 mw7p4 mw7q4 mw7p5 mw7q5 mw7p6 mw7q6 mw7p7 mw7q7 mw7p8 mw7q8 nw71 nw72 hzsw7 hzxw7 hzww7 hzpw7 kYw7_0 fYw7_0 kYw7_1 fYw7_1 kYw7_2 fYw7_2 kYw7_3 fYw7_3 kYw7_4 fYw7_4 kYw7_5 fYw7_5;rintro _ w8 ⟨pq,vq0,vq1,vq2,vq3,vq4,vq5,vq6,vq7,vq8,vq9,rfl,hb8,hpq,YQ⟩;have HBLw8:=I' (ah HBLw7.out hb8);have YP8:=HYP.out.ext hb8;have a4:=YP8.cell (i:=4) rfl;have a8:=YP8.cell (i:=8) rfl;have b4:=YQ.cell (i:=4) rfl;have b8:=YQ.cell (i:=8) rfl;clear HBLw7 HXw7 YP8 YQ HYP hb8;have d1:decide (x.au[j].aS.rank < x.au[l].aS.rank) = false:=(by simpa using HR1.out);have hr1:=HR1.out;by_cases hrr:x.au[j].aS.rank = x.au[l].aS.rank
    ·have hs3:¬x.au[l].seq≤x.au[j].seq:=fun hh=>HR2.out ⟨hrr,hh⟩;have d2:(x.au[j].aS.rank == x.au[l].aS.rank) = true:=(by simpa using hrr);have d3:decide (x.au[l].seq≤x.au[j].seq) = false:=(by simpa using hs3);have d4:decide (x.au[j].aS.rank = x.au[l].aS.rank) = true:=(by simpa using hrr);generalize x.au[j].aS.rank = ra at *;generalize x.au[l].aS.rank = rb at *;generalize x.au[j].seq = sa at *;generalize x.au[l].seq = sb at *;clear HR1 HR2;subst hrr;go_wp2;exact ⟨⟨k+1,N',O',HBLw8.out⟩,by simp only [intOf];omega⟩
    ·have d2:(x.au[j].aS.rank == x.au[l].aS.rank) = false:=(by simpa using hrr);have d4:decide (x.au[j].aS.rank = x.au[l].aS.rank) = false:=(by simpa using hrr);generalize x.au[j].aS.rank = ra at *;generalize x.au[l].aS.rank = rb at *;generalize x.au[j].seq = sa at *;generalize x.au[l].seq = sb at *;clear HR1 HR2;go_wp2;exact ⟨⟨k+1,N',O',HBLw8.out⟩,by simp only [intOf];omega⟩
   ·have hki:¬(k:Int)+1 < (GI x.au).length:=O';have Ywr:=HY6.out.ext HBLwr.out;have kYwr_0:=Ywr.cell (i:=0) rfl;have fYwr_0:=Ywr.fz 0;have kYwr_1:=Ywr.cell (i:=1) rfl;have fYwr_1:=Ywr.fz 1;have kYwr_2:=Ywr.cell (i:=2) rfl;have fYwr_2:=Ywr.fz 2;have kYwr_3:=Ywr.cell (i:=3) rfl;have fYwr_3:=Ywr.fz 3;have kYwr_4:=Ywr.cell (i:=4) rfl;have fYwr_4:=Ywr.fz 4;have kYwr_5:=Ywr.cell (i:=5) rfl;have fYwr_5:=Ywr.fz 5;clear Ywr;obtain ⟨wz,hwz⟩:∃wz,wz = wr:=⟨_,rfl⟩;subst hwz;go_wp2_with fail
    go_loopw [8,9] (fun v i wr=>∃k:Nat,i = .int .i64 k∧k≤x.hosts.length∧v = .int .i64 ((GI x.au).length+boundN (x.hosts.take k) x.au:Nat)∧Below w6.heap.size w6 wr) (fun _ i _=>x.hosts.length - (intOf i).toNat)
    case atStart=>exact ⟨0,rfl,Nat.zero_le _,(by simp [boundN]),HBLwr.out⟩
    case round =>
     obtain ⟨m,rfl,hm,rfl,hbl⟩:=hrel;have HBLwm:=I' hbl;have HXwm:=I' (HX6.out.ext hbl);have Ywm:=HY6.out.ext hbl;have hzsm:=hbl.size;have hzxm:w2.heap.size < wr.heap.size:=O';have hcnt:=wait_count HG.out;have alg:=boundN_le x.hosts x.au m;have hp12:=HG.out.p12;have hp8:=HG.out.h8;clear hbl;have kYwm_0:=Ywm.cell (i:=0) rfl;have fYwm_0:=Ywm.fz 0;have kYwm_1:=Ywm.cell (i:=1) rfl;have fYwm_1:=Ywm.fz 1;have kYwm_2:=Ywm.cell (i:=2) rfl;have fYwm_2:=Ywm.fz 2;have kYwm_3:=Ywm.cell (i:=3) rfl;have fYwm_3:=Ywm.fz 3;have kYwm_4:=Ywm.cell (i:=4) rfl;have fYwm_4:=Ywm.fz 4;have kYwm_5:=Ywm.cell (i:=5) rfl;have fYwm_5:=Ywm.fz 5;clear Ywm;by_cases hmt:m < x.hosts.length
     ·obtain ⟨bh,oh,ckh,Fkh,hAh,_,hblh,hrh,_,hch⟩:=HSH.out.get hmt;obtain ⟨Alabelsh,clabelsh,Flabelsh,Ataintsh,ctaintsh,Ftaintsh,hck,hFh,hnameh,hlabelsh,hcpuh,hmemh,hslotsh,htaintsh⟩:=iy hrh;subst hck;have c0:=hch 0 _ rfl;rw [show oh+(m * Dat.size Host+0) = oh+m * 6 by show oh+(m * 6+0) = oh+m * 6;omega] at c0;subst hAh;have c1:wr.cell? ⟨bh,oh+m * 6,none⟩ = some (.string x.hosts[m].name):=(HBLwm.out.cell (p:=⟨bh,oh+m * 6,none⟩) hblh).trans c0;have hzh:bh < wr.heap.size:=O';have hst:=boundN_take (ps:=x.au) hmt;have hbl3:=boundN_le x.hosts x.au (m+1);have HST:=I' hst;have HCN:=I' hcnt;have HB3:=I' hbl3;have hmi:(m:Int) < x.hosts.length:=O';have hcaph:=HSH.out.cap;clear hrh hch c0 hFh hst hcnt hbl3 alg;obtain ⟨V,hV⟩:∃V:Nat,(GI x.au).length+boundN (x.hosts.take m) x.au = V:=⟨_,rfl⟩;have HV:=I' hV;simp only [hV];have hV12:V≤12:=(by have:=HCN.out;have:=boundN_le x.hosts x.au m;omega);have hV2:(V:Int)+((YD x.hosts[m].name x.au).length:Int)≤12:=(by have:=HCN.out;have:=HST.out;have:=HB3.out;omega);have hwV:IntKind.i64.wrap ((V:Int)+((YD x.hosts[m].name x.au).length:Int)) = (V:Int)+((YD x.hosts[m].name x.au).length:Int):=(by rw [IntKind.wrap_i64];omega);clear hV;go_wp2_with fail
      refine zU wr 12 U' U' (aj _) ?_;have hbx:Below wr.heap.size wr wr.drew:=aA (aj _)
      refine aX 0 _ J' U' (fun _ _ d _ _ h=>by cases d <;> exact h) hbx (Or.inl ⟨rfl,fun wq hq=>by
       have hcq:=(aB hq).1;go_simp
       try rfl⟩) ?_
      try simp only [Act.put,pz]
      refine aX 1 _ J' U' (fun _ _ d _ _ h=>by cases d <;> exact h) hbx (Or.inl ⟨rfl,fun wq hq=>by
       have hcq:=(aB hq).1;go_simp
       try rfl⟩) ?_
      try simp only [Act.put,pz]
      refine aX 2 _ J' U' (fun _ _ d _ _ h=>by cases d <;> exact h) hbx (Or.inl ⟨rfl,fun wq hq=>by
       have hcq:=(aB hq).1;go_simp
       try rfl⟩) ?_
      try simp only [Act.put,pz]
      refine aX 3 _ J' U' (fun _ _ d _ _ h=>by cases d <;> exact h) hbx (Or.inl ⟨rfl,fun wq hq=>by
       have hcq:=(aB hq).1;go_simp
       try rfl⟩) ?_
      try simp only [Act.put,pz]
      refine aX 4 _ J' U' (fun _ _ d _ _ h=>by cases d <;> exact h) hbx (Or.inl ⟨rfl,fun wq hq=>by
       have hcq:=(aB hq).1;go_simp
       try rfl⟩) ?_
      try simp only [Act.put,pz]
      refine aX 5 _ J' U' (fun _ _ d _ _ h=>by cases d <;> exact h) hbx (Or.inl ⟨rfl,fun wq hq=>by
       have hcq:=(aB hq).1;go_simp
       try rfl⟩) ?_
      try simp only [Act.put,pz]
      refine aX 6 _ J' U' (fun _ _ d _ _ h=>by cases d <;> exact h) hbx (Or.inl ⟨rfl,fun wq hq=>by
       have hcq:=(aB hq).1;go_simp
       try rfl⟩) ?_
      try simp only [Act.put,pz]
      refine aX 7 _ J' U' (fun _ _ d _ _ h=>by cases d <;> exact h) hbx (Or.inl ⟨rfl,fun wq hq=>by
       have hcq:=(aB hq).1;go_simp
       try rfl⟩) ?_
      try simp only [Act.put,pz]
      refine bP 8 J' U' J' (fun K hK=>?_);go_simp;refine (abh x _ _ x.hosts[m].name _ (HXwm.out.rdx hbx) Ji.out).mono ?_;rintro e wc ⟨Ab,cb,Gb,rfl,hOb,hbc⟩;replace hbx:=ah hbx hbc;refine hK _ _ hbx ?_;try simp only [Act.put,pz]
      clear hK K
      refine aX 9 _ J' U' (fun _ _ d _ _ h=>by cases d <;> exact h) hbx (Or.inl ⟨rfl,fun wq hq=>by
       have hcq:=(aB hq).1;go_simp
       try rfl⟩) ?_
      try simp only [Act.put,pz]
      refine aX 10 _ J' U' (fun _ _ d _ _ h=>by cases d <;> exact h) hbx (Or.inl ⟨rfl,fun wq hq=>by
       have hcq:=(aB hq).1;go_simp
       try rfl⟩) ?_
      try simp only [Act.put,pz]
      refine aX 11 _ J' U' (fun _ _ d _ _ h=>by cases d <;> exact h) hbx (Or.inl ⟨rfl,fun wq hq=>by
       have hcq:=(aB hq).1;go_simp
       try rfl⟩) ?_
      try simp only [Act.put,pz]
      refine nR U' ?_;go_wp2;exact ⟨⟨m+1,N',O',(by have h1:=HV.out;have h2:=HST.out;simp only [Value.int.injEq,true_and];omega),ah HBLwm.out hbx⟩,by simp only [intOf];omega⟩
     ·have hmi:¬(m:Int) < x.hosts.length:=O';obtain rfl:m = x.hosts.length:=by omega
      rw [List.take_length,hcnt];have hq:iI x = true:=(good_iff x).2 HG.out;have HQ:=I' hq;have hwt:=good_wt HG.out;clear hq hcnt alg;go_wp2_with fail
      refine (qL x _ _ _ HXwm.out.rd O').mono ?_;rw [HQ.out];rintro e wc ⟨rfl,hbc⟩;go_wp2;go_ret
      exact ⟨rfl,ah HB6.out (ah HBLwm.out hbc)⟩
theorem gX {H:Type} {enc:TypeId × Value→H} (W:World) (base:Nat) (args:Array Value) (ds:List (DataW H)) (p:List MemPlace)
 (hval:∀(j:Nat) t v,Tryz.f6.params[j]? = some t→args[j]? = some v→Value.okWide Tryz.prog W .any base t v)
 (hA:DataW.TrodAll enc Tryz.prog W 0 (fun _=>true) true Tryz.f6.params.toList args.toList ds p) (hlt:∀x∈p,x.block < W.heap.size) :
 Calls Tryz.prog 6 args W fun e W'=>e = .returned (.bool true)∧Below W.heap.size W W':=by
 rw [Tryz.params6] at hA hval;obtain ⟨v0,JM,d0,ds0,p0,q0,hargs,rfl,rfl,h0,r0⟩:=trodAll_cons hA;obtain ⟨rfl,rfl,rfl⟩:=trodAll_nil r0;obtain rfl:args = #[v0]:=by cases args;simp_all
 obtain ⟨fuel,hf⟩:=h0;obtain ⟨xs,F,hr⟩:=yH Tryz.underlying22 rfl (opens_u8 Tryz.underlying5) H enc W 0 fuel _ _ _ _ hf;obtain ⟨A,c,hv,hS⟩:=jB hr;obtain ⟨B,n,d,rfl⟩:=okWide_slice Tryz.underlying22 (hval 0 22 v0 rfl rfl);simp [Value.cells] at hv;obtain ⟨rfl,rfl,rfl⟩:=hv;exact walk xs B d F W hS
theorem own:ownKnob Tryz.prog.godebug = none:=by kernel_rfl
theorem laid:laidOutB Tryz.prog = true:=by kernel_rfl
theorem readable:∀t∈Tryz.f6.params.toList,Tryz.prog.readableRec t = true∧t < Tryz.prog.types.size:=by
 have h:(Tryz.f6.params.toList.all fun t=>Tryz.prog.readableRec t&&decide (t < Tryz.prog.types.size)) = true:=by kernel_rfl
 intro t ht;have:=List.all_eq_true.1 h t ht;simpa using this
theorem fF {H:Type} {enc:TypeId × Value→H} {W:World} {args:List Value} {ds:List (DataW H)} {p:List MemPlace}
 (h:DataW.TrodAll enc Tryz.prog W 0 (fun _=>true) true Tryz.f6.params.toList args ds p):∃d0,ds = [d0]:=by
 rw [Tryz.params6] at h;obtain ⟨v0,JM,d0,ds0,p0,q0,_,rfl,_,_,r0⟩:=trodAll_cons h;obtain ⟨_,rfl,_⟩:=trodAll_nil r0;exact ⟨d0,rfl⟩
theorem lifted (os:Os) (started:os.Started) (H:Type) (enc:TypeId × Value→H) :
 ReturnsInHanded {} Tryz.checked os 6 .any (Rows.fnWaitsSpec.pre6 enc Tryz.prog Tryz.f6 Rows.fnWaitsRow.domain false) (Rows.fnWaitsSpec.post enc Tryz.prog Tryz.f6 false true false false):=by
 refine returnsInHanded_of_change (C:=Tryz.checked) own started U' Tryz.func6
  (ChangeSpec.witness6 (enc:=enc) (C:=Tryz.checked) false ⟨#[],#[.slice none 0 0],[]⟩ 8 U' U' U' U') ?_
 intro W base args ds gs before hval0 hW hcnd _;have hlt:∀x∈before,x.block < W.heap.size:=fun x hx=>hW.lt x hx;have hW':=hW;obtain ⟨p,q,hA,hV,rfl,_,_⟩:=hW';exact (gX W base args ds p hval0 hA (fun x hx=>hlt x (List.mem_append_left _ hx))).mono fun e W' ⟨he,hb⟩ =>
  ⟨_,he,nO laid readable rfl Tryz.underlying4 rfl auW hW hb⟩
theorem over:Rows.fnWaitsRow.holds Tryz.pinned (OpenSpec.ofChange Rows.fnWaitsSpec) :=
 OpenClaim.holds_of_wide 6 Tryz.f6 rfl rfl rfl rfl rfl rfl rfl ⟨rfl,rfl,rfl,rfl,rfl⟩ rfl rfl rfl rfl rfl U' Tryz.func6 U'
  (of_decide_eq_true U') auf
  (fun os started H enc _=>lifted os started H enc)
theorem proved:Rows.FnWaitsSaid :=
 over
#print axioms proved
end Go.Proofs.YtkjeocdobidadaaGreat.fnWaits
