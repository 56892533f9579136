/- How many marks: Taint. No condition. -/
import Derived.Test.YtkbkikggodlbbaaGreatMkNeed
import Derived.Test.YtkbkikggodlbbaaGreatMiStr
import Derived.Test.YtkbkikggodlbbaaGreatMark
import Derived.Test.YtkbkikggodlbbaaGreatMkPlaced
namespace Go.Proofs.YtkbkikggodlbbaaGreat
open Go.ChangeShapes Go.WideShapes Go.ChangeAt Go.RowKit
set_option linter.unusedVariables false
set_option linter.unusedSimpArgs false
set_option maxHeartbeats 2000000
set_option maxRecDepth 100000
theorem adP (x:iU):kC x≤3 * (x.wt+1):=by
 simp only [kC,wtS,iU.wt] at *;omega
theorem Ry (x:Label):bC x≤2 * (x.wt+1):=by
 simp only [bC,wtS,Label.wt] at *;omega
theorem aov (x:Host):lI x≤4 * (x.wt+1):=by
 have h0:=FN Ry x.labels;have h1:=FN adP x.aT;simp only [lI,wtS,Host.wt] at *;omega
theorem Ku (x:iU) (k:Int):kC (D8 x k) = kC x:=by simp [kC,D8]
theorem ab1 (x:iU) (k:Int):D8 (D8 x k) k = D8 x k:=by simp [D8]
theorem qC (x:Label) (k:Int):bC (xP x k) = bC x:=by simp [bC,xP]
theorem Iy (x:Label) (k:Int):xP (xP x k) k = xP x k:=by simp [xP]
theorem aaL (x:Host) (k:Int):lI (JR x k) = lI x:=by simp [lI,JR,iY qC,iY Ku]
theorem amr (x:Host) (k:Int):JR (JR x k) k = JR x k:=by simp [JR,qg qC Iy,qg Ku ab1,iY qC,iY Ku]
def F9 (x:Host) (k:Int):Host:={ x with labels:=EX xP bC x.labels (k),aT:=EX D8 kC x.aT (k+(cO bC x.labels:Int)) }
def wJ (x:Host):Nat:=cO bC x.labels+cO kC x.aT
theorem akx (x:Host) (cs:List Value) (F:List Nat) (B:Nat) (k:Int) (w:World) (h:Own w B x cs F) (hk0:0≤k) (hk:k+wJ x≤1073741823) :
 Calls Tryz.prog 40 #[.agg cs.toArray,.int .i64 k] w fun e w'=>e = .returned (.int .i64 (k+wJ x))∧Own w' B (F9 x k) cs F∧nN F w w':=by
 have hr:=h.rd;obtain ⟨gu,gy,jw,kJ,kK,qU,hck,su,hname,dO,vg,hmem,uI,jq⟩:=iy hr;clear hr;subst hck su;simp only [wJ] at hk ⊢;push_cast at hk ⊢;have hnd:=h.nodup;simp only [List.nodup_append,List.mem_append] at hnd;have OH:∀y∈jw,y∉qU:=fun y ha hb=>hnd.2.2 y ha y hb rfl;have OI:∀y∈qU,y∉jw:=fun y hb ha=>hnd.2.2 y ha y hb rfl;have mD:Own w B x.labels [.slice gu x.labels.length gy] jw:=⟨dO,hnd.1,fun y hy=>h.base y (by simp [hy]),fun y hy=>h.plain y (by simp [hy])⟩;have rY:Own w B x.aT [.slice kJ x.aT.length kK] qU:=⟨jq,hnd.2.1,fun y hy=>h.base y (by simp [hy]),fun y hy=>h.plain y (by simp [hy])⟩;go_enter Tryz.func40,Tryz.ntmps40;go_wp2_with fail
 generalize GY:World.alloc w _ = wa;have hUa:nN (jw++(qU)) w wa:=GY ▸ nN.lq _ (ak (aj w) _);have hz:w.heap.size < wa.heap.size:=by rw [← GY];simp
 replace mD:Own wa B x.labels [.slice gu x.labels.length gy] jw:=GY ▸ mD.alloc _;have Uz:w.heap.size∉jw:=fun hy=>Nat.lt_irrefl _ (h.lt _ (by simp [hy]));have xR:wa.cell? ⟨w.heap.size,1,none⟩ = some (.slice gu x.labels.length gy):=by rw [← GY,cell_of_row _ _ _ _ _ _ (heap_alloc_new w _)];rfl
 replace rY:Own wa B x.aT [.slice kJ x.aT.length kK] qU:=GY ▸ rY.alloc _;have amu:w.heap.size∉qU:=fun hy=>Nat.lt_irrefl _ (h.lt _ (by simp [hy]));have PL:wa.cell? ⟨w.heap.size,5,none⟩ = some (.slice kJ x.aT.length kK):=by rw [← GY,cell_of_row _ _ _ _ _ _ (heap_alloc_new w _)];rfl
 clear GY;refine (H7 x.labels _ _ _ _ _ (k) _ mD rfl O' O').mono ?_;rintro e w1 ⟨rfl,XT,Bf⟩;replace xR:=(World.cell?_of_block (a:=⟨w.heap.size,1,none⟩) (Bf.block _ hz Uz)).trans xR;replace rY:=Bf.own rY OI;replace PL:=(World.cell?_of_block (a:=⟨w.heap.size,5,none⟩) (Bf.block _ hz Uz)).trans PL;replace hz:=Nat.lt_of_lt_of_le hz Bf.size;replace mD:=XT;go_wp2_with fail
 refine (XU x.aT _ _ _ _ _ (k+(cO bC x.labels:Int)) _ rY rfl O' O').mono ?_;rintro e w2 ⟨rfl,agI,Om⟩;replace mD:=Om.own mD OH;replace xR:=(World.cell?_of_block (a:=⟨w.heap.size,1,none⟩) (Om.block _ hz amu)).trans xR;replace PL:=(World.cell?_of_block (a:=⟨w.heap.size,5,none⟩) (Om.block _ hz amu)).trans PL;replace hz:=Nat.lt_of_lt_of_le hz Om.size;replace rY:=agI;go_wp2_with fail
 go_ret
 refine ⟨by first | rfl | (simp only [Int.add_assoc,Int.natCast_add];rfl),?_,((hUa.trans (Bf.mono (G:=jw++(qU)) (fun y hy=>by simp [hy]))).trans (Om.mono (G:=jw++(qU)) (fun y hy=>by simp [hy])))⟩;exact ⟨(by have:=(nJ (rdStr w2 (x.name) (rV hname)) (nJ (mD.rd) (nJ (jL w2 (x.cpu) vg) (nJ (jL w2 (x.mem) hmem) (nJ (jL w2 (x.slots) uI) (rY.rd))))));simp only [List.nil_append,List.append_nil,List.append_assoc,List.cons_append,yN] at this;exact this),h.nodup,h.base,(by intro y hy;(try simp only [List.mem_append] at hy);rcases hy with hy | hy <;> first | exact mD.plain y hy | exact rY.plain y hy)⟩
theorem asY (x:Host):wJ x≤6 * x.wt:=by
 have h0:=FN Ry x.labels;have h1:=FN adP x.aT;simp only [wJ,wtS,Host.wt] at *;omega
def Jt (x:nI) (k:Int):nI:={ x with labels:=EX xP bC x.labels (k),needs:=EX H9 fZ x.needs (k+(cO bC x.labels:Int)),tolerances:=EX rC bJ x.tolerances (k+(cO bC x.labels:Int)+(cO fZ x.needs:Int)) }
def uM (x:nI):Nat:=cO bC x.labels+cO fZ x.needs+cO bJ x.tolerances
theorem Oc (x:nI) (cs:List Value) (F:List Nat) (B:Nat) (k:Int) (w:World) (h:Own w B x cs F) (hk0:0≤k) (hk:k+uM x≤1073741823) :
 Calls Tryz.prog 39 #[.agg cs.toArray,.int .i64 k] w fun e w'=>e = .returned (.int .i64 (k+uM x))∧Own w' B (Jt x k) cs F∧nN F w w':=by
 have hr:=h.rd;obtain ⟨gu,gy,jw,oh,nT,wG,fA,fB,jY,hck,su,hname,dO,vg,hmem,BJ,mX,eG⟩:=dL hr;clear hr;subst hck su;simp only [uM] at hk ⊢;push_cast at hk ⊢;have hnd:=h.nodup;simp only [List.nodup_append,List.mem_append] at hnd;have agN:∀y∈jw,y∉wG:=fun y ha hb=>hnd.2.2 y ha y (.inl hb) rfl;have agO:∀y∈wG,y∉jw:=fun y hb ha=>hnd.2.2 y ha y (.inl hb) rfl;have Zc:∀y∈jw,y∉jY:=fun y ha hb=>hnd.2.2 y ha y (.inr hb) rfl;have Zd:∀y∈jY,y∉jw:=fun y hb ha=>hnd.2.2 y ha y (.inr hb) rfl;have aaN:∀y∈wG,y∉jY:=fun y ha hb=>hnd.2.1.2.2 y ha y hb rfl;have aaO:∀y∈jY,y∉wG:=fun y hb ha=>hnd.2.1.2.2 y ha y hb rfl;have mD:Own w B x.labels [.slice gu x.labels.length gy] jw:=⟨dO,hnd.1,fun y hy=>h.base y (by simp [hy]),fun y hy=>h.plain y (by simp [hy])⟩;have NJ:Own w B x.needs [.slice oh x.needs.length nT] wG:=⟨mX,hnd.2.1.1,fun y hy=>h.base y (by simp [hy]),fun y hy=>h.plain y (by simp [hy])⟩;have zK:Own w B x.tolerances [.slice fA x.tolerances.length fB] jY:=⟨eG,hnd.2.1.2.1,fun y hy=>h.base y (by simp [hy]),fun y hy=>h.plain y (by simp [hy])⟩;go_enter Tryz.func39,Tryz.ntmps39;go_wp2_with fail
 generalize GY:World.alloc w _ = wa;have hUa:nN (jw++(wG++(jY))) w wa:=GY ▸ nN.lq _ (ak (aj w) _);have hz:w.heap.size < wa.heap.size:=by rw [← GY];simp
 replace mD:Own wa B x.labels [.slice gu x.labels.length gy] jw:=GY ▸ mD.alloc _;have Uz:w.heap.size∉jw:=fun hy=>Nat.lt_irrefl _ (h.lt _ (by simp [hy]));have xR:wa.cell? ⟨w.heap.size,1,none⟩ = some (.slice gu x.labels.length gy):=by rw [← GY,cell_of_row _ _ _ _ _ _ (heap_alloc_new w _)];rfl
 replace NJ:Own wa B x.needs [.slice oh x.needs.length nT] wG:=GY ▸ NJ.alloc _;have akO:w.heap.size∉wG:=fun hy=>Nat.lt_irrefl _ (h.lt _ (by simp [hy]));have MH:wa.cell? ⟨w.heap.size,5,none⟩ = some (.slice oh x.needs.length nT):=by rw [← GY,cell_of_row _ _ _ _ _ _ (heap_alloc_new w _)];rfl
 replace zK:Own wa B x.tolerances [.slice fA x.tolerances.length fB] jY:=GY ▸ zK.alloc _;have VL:w.heap.size∉jY:=fun hy=>Nat.lt_irrefl _ (h.lt _ (by simp [hy]));have wV:wa.cell? ⟨w.heap.size,6,none⟩ = some (.slice fA x.tolerances.length fB):=by rw [← GY,cell_of_row _ _ _ _ _ _ (heap_alloc_new w _)];rfl
 clear GY;refine (H7 x.labels _ _ _ _ _ (k) _ mD rfl O' O').mono ?_;rintro e w1 ⟨rfl,XT,Bf⟩;replace xR:=(World.cell?_of_block (a:=⟨w.heap.size,1,none⟩) (Bf.block _ hz Uz)).trans xR;replace NJ:=Bf.own NJ agO;replace MH:=(World.cell?_of_block (a:=⟨w.heap.size,5,none⟩) (Bf.block _ hz Uz)).trans MH;replace zK:=Bf.own zK Zd;replace wV:=(World.cell?_of_block (a:=⟨w.heap.size,6,none⟩) (Bf.block _ hz Uz)).trans wV;replace hz:=Nat.lt_of_lt_of_le hz Bf.size;replace mD:=XT;go_wp2_with fail
 refine (ZP x.needs _ _ _ _ _ (k+(cO bC x.labels:Int)) _ NJ rfl O' O').mono ?_;rintro e w2 ⟨rfl,atv,VN⟩;replace mD:=VN.own mD agN;replace xR:=(World.cell?_of_block (a:=⟨w.heap.size,1,none⟩) (VN.block _ hz akO)).trans xR;replace MH:=(World.cell?_of_block (a:=⟨w.heap.size,5,none⟩) (VN.block _ hz akO)).trans MH;replace zK:=VN.own zK aaO;replace wV:=(World.cell?_of_block (a:=⟨w.heap.size,6,none⟩) (VN.block _ hz akO)).trans wV;replace hz:=Nat.lt_of_lt_of_le hz VN.size;replace NJ:=atv;go_wp2_with fail
 refine (Qw x.tolerances _ _ _ _ _ (k+(cO bC x.labels:Int)+(cO fZ x.needs:Int)) _ zK rfl O' O').mono ?_;rintro e w3 ⟨rfl,akP,FP⟩;replace mD:=FP.own mD Zc;replace xR:=(World.cell?_of_block (a:=⟨w.heap.size,1,none⟩) (FP.block _ hz VL)).trans xR;replace NJ:=FP.own NJ aaN;replace MH:=(World.cell?_of_block (a:=⟨w.heap.size,5,none⟩) (FP.block _ hz VL)).trans MH;replace wV:=(World.cell?_of_block (a:=⟨w.heap.size,6,none⟩) (FP.block _ hz VL)).trans wV;replace hz:=Nat.lt_of_lt_of_le hz FP.size;replace zK:=akP;go_wp2_with fail
 go_ret
 refine ⟨by first | rfl | (simp only [Int.add_assoc,Int.natCast_add];rfl),?_,(((hUa.trans (Bf.mono (G:=jw++(wG++(jY))) (fun y hy=>by simp [hy]))).trans (VN.mono (G:=jw++(wG++(jY))) (fun y hy=>by simp [hy]))).trans (FP.mono (G:=jw++(wG++(jY))) (fun y hy=>by simp [hy])))⟩;exact ⟨(by have:=(nJ (rdStr w3 (x.name) (rV hname)) (nJ (mD.rd) (nJ (jL w3 (x.cpu) vg) (nJ (jL w3 (x.mem) hmem) (nJ (jL w3 (x.rank) BJ) (nJ (NJ.rd) (zK.rd)))))));simp only [List.nil_append,List.append_nil,List.append_assoc,List.cons_append,yN] at this;exact this),h.nodup,h.base,(by intro y hy;(try simp only [List.mem_append] at hy);rcases hy with hy | hy | hy <;> first | exact mD.plain y hy | exact NJ.plain y hy | exact zK.plain y hy)⟩
theorem Pv (x:nI):uM x≤6 * x.wt:=by
 have h0:=FN Ry x.labels;have h1:=FN agJ x.needs;have h2:=FN WH x.tolerances;simp only [uM,wtS,nI.wt] at *;omega
theorem VJ (x:Placed) (k:Int):jh (CS x k) = jh x:=by simp [jh,CS,iY qC,iY MG,iY DC]
theorem aik (x:Placed) (k:Int):CS (CS x k) k = CS x k:=by simp [CS,qg qC Iy,qg MG adQ,qg DC Uy,iY qC,iY MG,iY DC]
theorem akL (x:Placed):jh x≤6 * (x.wt+1):=by
 have h0:=FN Ry x.aS.labels;have h1:=FN agJ x.aS.needs;have h2:=FN WH x.aS.tolerances;simp only [jh,wtS,Placed.wt,nI.wt] at *;omega
def qF (x:aU) (k:Int):aU:={ x with hosts:=EX JR lI x.hosts (k),au:=EX CS jh x.au (k+(cO lI x.hosts:Int)) }
def iw (x:aU):Nat:=cO lI x.hosts+cO jh x.au
theorem lN (x:aU) (k:Int):iw (qF x k) = iw x:=by simp [iw,qF,iY aaL,iY VJ]
theorem vG (x:aU) (k:Int):qF (qF x k) k = qF x k:=by simp [qF,qg aaL amr,qg VJ aik,iY aaL,iY VJ]
theorem oI (x:aU) (cs:List Value) (F:List Nat) (B:Nat) (k:Int) (w:World) (h:Own w B x cs F) (hk0:0≤k) (hk:k+iw x≤1073741823) :
 Calls Tryz.prog 12 #[.agg cs.toArray,.int .i64 k] w fun e w'=>e = .returned (.int .i64 (k+iw x))∧Own w' B (qF x k) cs F∧nN F w w':=by
 have hr:=h.rd;obtain ⟨bG,bD,fQ,dn,bW,jg,hck,su,bQ,dM,hnext,aV,aP,aW⟩:=aO hr;clear hr;subst hck su;simp only [iw] at hk ⊢;push_cast at hk ⊢;have hnd:=h.nodup;simp only [List.nodup_append,List.mem_append] at hnd;have akM:∀y∈fQ,y∉jg:=fun y ha hb=>hnd.2.2 y ha y hb rfl;have akN:∀y∈jg,y∉fQ:=fun y hb ha=>hnd.2.2 y ha y hb rfl;have Rz:Own w B x.hosts [.slice bG x.hosts.length bD] fQ:=⟨bQ,hnd.1,fun y hy=>h.base y (by simp [hy]),fun y hy=>h.plain y (by simp [hy])⟩;have X3:Own w B x.au [.slice dn x.au.length bW] jg:=⟨dM,hnd.2.1,fun y hy=>h.base y (by simp [hy]),fun y hy=>h.plain y (by simp [hy])⟩;go_enter Tryz.func12,Tryz.ntmps12;go_wp2_with fail
 generalize GY:World.alloc w _ = wa;have hUa:nN (fQ++(jg)) w wa:=GY ▸ nN.lq _ (ak (aj w) _);have hz:w.heap.size < wa.heap.size:=by rw [← GY];simp
 replace Rz:Own wa B x.hosts [.slice bG x.hosts.length bD] fQ:=GY ▸ Rz.alloc _;have apv:w.heap.size∉fQ:=fun hy=>Nat.lt_irrefl _ (h.lt _ (by simp [hy]));have VK:wa.cell? ⟨w.heap.size,0,none⟩ = some (.slice bG x.hosts.length bD):=by rw [← GY,cell_of_row _ _ _ _ _ _ (heap_alloc_new w _)];rfl
 replace X3:Own wa B x.au [.slice dn x.au.length bW] jg:=GY ▸ X3.alloc _;have ar8:w.heap.size∉jg:=fun hy=>Nat.lt_irrefl _ (h.lt _ (by simp [hy]));have ab3:wa.cell? ⟨w.heap.size,1,none⟩ = some (.slice dn x.au.length bW):=by rw [← GY,cell_of_row _ _ _ _ _ _ (heap_alloc_new w _)];rfl
 clear GY;refine (aii x.hosts _ _ _ _ _ (k) _ Rz rfl O' O').mono ?_;rintro e w1 ⟨rfl,atu,ab4⟩;replace VK:=(World.cell?_of_block (a:=⟨w.heap.size,0,none⟩) (ab4.block _ hz apv)).trans VK;replace X3:=ab4.own X3 akN;replace ab3:=(World.cell?_of_block (a:=⟨w.heap.size,1,none⟩) (ab4.block _ hz apv)).trans ab3;replace hz:=Nat.lt_of_lt_of_le hz ab4.size;replace Rz:=atu;go_wp2_with fail
 refine (aez x.au _ _ _ _ _ (k+(cO lI x.hosts:Int)) _ X3 rfl O' O').mono ?_;rintro e w2 ⟨rfl,hNpods,agM⟩;replace Rz:=agM.own Rz akM;replace VK:=(World.cell?_of_block (a:=⟨w.heap.size,0,none⟩) (agM.block _ hz ar8)).trans VK;replace ab3:=(World.cell?_of_block (a:=⟨w.heap.size,1,none⟩) (agM.block _ hz ar8)).trans ab3;replace hz:=Nat.lt_of_lt_of_le hz agM.size;replace X3:=hNpods;go_wp2_with fail
 go_ret
 refine ⟨by first | rfl | (simp only [Int.add_assoc,Int.natCast_add];rfl),?_,((hUa.trans (ab4.mono (G:=fQ++(jg)) (fun y hy=>by simp [hy]))).trans (agM.mono (G:=fQ++(jg)) (fun y hy=>by simp [hy])))⟩;exact ⟨(by have:=(nJ (Rz.rd) (nJ (X3.rd) (nJ (jL w2 (x.next) hnext) ((nJ (jL w2 (x.weights.pack) aV) (nJ (jL w2 (x.weights.spread) aP) (jL w2 (x.weights.soft) aW)))))));simp only [List.nil_append,List.append_nil,List.append_assoc,List.cons_append,yN] at this;exact this),h.nodup,h.base,(by intro y hy;(try simp only [List.mem_append] at hy);rcases hy with hy | hy <;> first | exact Rz.plain y hy | exact X3.plain y hy)⟩
theorem uz (x:aU) (cs:List Value) (F:List Nat) (k:Int) (w:World) (h:rd w x cs F) (hm:qF x k = x) (hk0:0≤k) (hk:k+iw x≤1073741823) :
 Calls Tryz.prog 14 #[.agg cs.toArray,.int .i64 k] w fun e w'=>e = .returned (.int .i64 (k+iw x))∧Below w.heap.size w w':=by
 obtain ⟨bG,bD,fQ,dn,bW,jg,hck,su,bQ,dM,hnext,aV,aP,aW⟩:=aO h;clear h;subst hck;simp only [iw] at hk ⊢;push_cast at hk ⊢;have e0:EX JR lI x.hosts (k) = x.hosts:=congrArg (fun z:aU=>z.hosts) hm;have e1:EX CS jh x.au (k+(cO lI x.hosts:Int)) = x.au:=congrArg (fun z:aU=>z.au) hm;clear hm;have hbl:=aj w;go_enter Tryz.func14,Tryz.ntmps14;go_wp2_with fail
 generalize GY:World.alloc w _ = wa;replace hbl:Below w.heap.size w wa:=GY ▸ ak (aj w) _;have hz:w.heap.size < wa.heap.size:=by rw [← GY];simp
 replace bQ:Sl wa x.hosts bG bD fQ:=Sl.ext bQ hbl;have VK:wa.cell? ⟨w.heap.size,0,none⟩ = some (.slice bG x.hosts.length bD):=by rw [← GY,cell_of_row _ _ _ _ _ _ (heap_alloc_new w _)];rfl
 replace dM:Sl wa x.au dn bW jg:=Sl.ext dM hbl;have ab3:wa.cell? ⟨w.heap.size,1,none⟩ = some (.slice dn x.au.length bW):=by rw [← GY,cell_of_row _ _ _ _ _ _ (heap_alloc_new w _)];rfl
 clear GY;refine (aij x.hosts _ _ _ _ (k) _ bQ rfl e0 O' O').mono ?_;rintro e w1 ⟨rfl,hn⟩;replace bQ:=Sl.ext bQ hn;replace VK:=((ay hn).1 _ _ hz).trans VK;replace dM:=Sl.ext dM hn;replace ab3:=((ay hn).1 _ _ hz).trans ab3;replace hz:=Nat.lt_of_lt_of_le hz hn.size;replace hbl:=ah hbl hn;clear hn;go_wp2_with fail
 refine (aeB x.au _ _ _ _ (k+(cO lI x.hosts:Int)) _ dM rfl e1 O' O').mono ?_;rintro e w2 ⟨rfl,hn⟩;replace bQ:=Sl.ext bQ hn;replace VK:=((ay hn).1 _ _ hz).trans VK;replace dM:=Sl.ext dM hn;replace ab3:=((ay hn).1 _ _ hz).trans ab3;replace hz:=Nat.lt_of_lt_of_le hz hn.size;replace hbl:=ah hbl hn;clear hn;go_wp2_with fail
 go_ret
 exact ⟨by first | rfl | (simp only [Int.add_assoc,Int.natCast_add];rfl),hbl⟩
theorem uK (x:aU):iw x≤6 * x.wt:=by
 have h0:=FN aov x.hosts;have h1:=FN akL x.au;simp only [iw,wtS,aU.wt] at *;omega
end Go.Proofs.YtkbkikggodlbbaaGreat
