/- How many marks: Taint. No condition. -/
import Derived.Test.YtnedlmlpeplnfaaGreatDelP
import Derived.Test.YtnedlmlpeplnfaaGreatMkTolerance
import Derived.Test.YtnedlmlpeplnfaaGreatMkNeed
namespace Go.Proofs.YtnedlmlpeplnfaaGreat
open Go.ChangeShapes Go.WideShapes Go.ChangeAt Go.RowKit
set_option linter.unusedVariables false
set_option linter.unusedSimpArgs false
set_option maxHeartbeats 2000000
set_option maxRecDepth 100000
theorem adP (x:iU):kC x≤3 * (x.wt+1):=by
 simp only [kC,wtS,iU.wt] at *;omega
theorem Ry (x:Label):bC x≤2 * (x.wt+1):=by
 simp only [bC,wtS,Label.wt] at *;omega
theorem Ku (x:iU) (k:Int):kC (D8 x k) = kC x:=by simp [kC,D8]
theorem ab1 (x:iU) (k:Int):D8 (D8 x k) k = D8 x k:=by simp [D8]
theorem qC (x:Label) (k:Int):bC (xP x k) = bC x:=by simp [bC,xP]
theorem Iy (x:Label) (k:Int):xP (xP x k) k = xP x k:=by simp [xP]
theorem WH (x:bH):bJ x≤4 * (x.wt+1):=by
 simp only [bJ,wtS,bH.wt] at *;omega
theorem DC (x:bH) (k:Int):bJ (rC x k) = bJ x:=by simp [bJ,rC]
theorem Uy (x:bH) (k:Int):rC (rC x k) k = rC x k:=by simp [rC]
theorem agJ (x:Need):fZ x≤2 * (x.wt+1):=by
 have h0:=FN (f:=ByteArray.size) aiU x.values;simp only [fZ,wtS,Need.wt] at *;omega
theorem MG (x:Need) (k:Int):fZ (H9 x k) = fZ x:=by simp [fZ,H9,iY mW]
theorem adQ (x:Need) (k:Int):H9 (H9 x k) k = H9 x k:=by simp [H9,qg mW Eh,iY mW]
def F9 (x:Host) (k:Int):Host:={ x with labels:=EX xP bC x.labels (k),aT:=EX D8 kC x.aT (k+(cO bC x.labels:Int)) }
def wJ (x:Host):Nat:=cO bC x.labels+cO kC x.aT
theorem Nz (x:Host) (k:Int):wJ (F9 x k) = wJ x:=by simp [wJ,F9,iY qC,iY Ku]
theorem XM (x:Host) (k:Int):F9 (F9 x k) k = F9 x k:=by simp [F9,qg qC Iy,qg Ku ab1,iY qC,iY Ku]
theorem akx (x:Host) (cs:List Value) (F:List Nat) (B:Nat) (k:Int) (w:World) (h:Own w B x cs F) (hk0:0≤k) (hk:k+wJ x≤1073741823) :
 Calls Tryz.prog 29 #[.agg cs.toArray,.int .i64 k] w fun e w'=>e = .returned (.int .i64 (k+wJ x))∧Own w' B (F9 x k) cs F∧nN F w w':=by
 have hr:=h.rd;obtain ⟨gu,gy,jw,kJ,kK,qU,hck,su,hname,dO,vg,hmem,uI,jq⟩:=iy hr;clear hr;subst hck su;simp only [wJ] at hk ⊢;push_cast at hk ⊢;have hnd:=h.nodup;simp only [List.nodup_append,List.mem_append] at hnd;have OH:∀y∈jw,y∉qU:=fun y ha hb=>hnd.2.2 y ha y hb rfl;have OI:∀y∈qU,y∉jw:=fun y hb ha=>hnd.2.2 y ha y hb rfl;have mD:Own w B x.labels [.slice gu x.labels.length gy] jw:=⟨dO,hnd.1,fun y hy=>h.base y (by simp [hy]),fun y hy=>h.plain y (by simp [hy])⟩;have rY:Own w B x.aT [.slice kJ x.aT.length kK] qU:=⟨jq,hnd.2.1,fun y hy=>h.base y (by simp [hy]),fun y hy=>h.plain y (by simp [hy])⟩;go_enter Tryz.func29,Tryz.ntmps29;go_wp2_with fail
 generalize GY:World.alloc w _ = wa;have hUa:nN (jw++(qU)) w wa:=GY ▸ nN.lq _ (ak (aj w) _);have hz:w.heap.size < wa.heap.size:=by rw [← GY];simp
 replace mD:Own wa B x.labels [.slice gu x.labels.length gy] jw:=GY ▸ mD.alloc _;have Uz:w.heap.size∉jw:=fun hy=>Nat.lt_irrefl _ (h.lt _ (by simp [hy]));have xR:wa.cell? ⟨w.heap.size,1,none⟩ = some (.slice gu x.labels.length gy):=by rw [← GY,cell_of_row _ _ _ _ _ _ (heap_alloc_new w _)];rfl
 replace rY:Own wa B x.aT [.slice kJ x.aT.length kK] qU:=GY ▸ rY.alloc _;have amu:w.heap.size∉qU:=fun hy=>Nat.lt_irrefl _ (h.lt _ (by simp [hy]));have PL:wa.cell? ⟨w.heap.size,5,none⟩ = some (.slice kJ x.aT.length kK):=by rw [← GY,cell_of_row _ _ _ _ _ _ (heap_alloc_new w _)];rfl
 clear GY;refine (H7 x.labels _ _ _ _ _ (k) _ mD rfl O' O').mono ?_;rintro e w1 ⟨rfl,XT,Bf⟩;replace xR:=(World.cell?_of_block (a:=⟨w.heap.size,1,none⟩) (Bf.block _ hz Uz)).trans xR;replace rY:=Bf.own rY OI;replace PL:=(World.cell?_of_block (a:=⟨w.heap.size,5,none⟩) (Bf.block _ hz Uz)).trans PL;replace hz:=Nat.lt_of_lt_of_le hz Bf.size;replace mD:=XT;go_wp2_with fail
 refine (XU x.aT _ _ _ _ _ (k+(cO bC x.labels:Int)) _ rY rfl O' O').mono ?_;rintro e w2 ⟨rfl,agI,Om⟩;replace mD:=Om.own mD OH;replace xR:=(World.cell?_of_block (a:=⟨w.heap.size,1,none⟩) (Om.block _ hz amu)).trans xR;replace PL:=(World.cell?_of_block (a:=⟨w.heap.size,5,none⟩) (Om.block _ hz amu)).trans PL;replace hz:=Nat.lt_of_lt_of_le hz Om.size;replace rY:=agI;go_wp2_with fail
 go_ret
 refine ⟨by first | rfl | (simp only [Int.add_assoc,Int.natCast_add];rfl),?_,((hUa.trans (Bf.mono (G:=jw++(qU)) (fun y hy=>by simp [hy]))).trans (Om.mono (G:=jw++(qU)) (fun y hy=>by simp [hy])))⟩;exact ⟨(by have:=(nJ (rdStr w2 (x.name) (rV hname)) (nJ (mD.rd) (nJ (jL w2 (x.cpu) vg) (nJ (jL w2 (x.mem) hmem) (nJ (jL w2 (x.slots) uI) (rY.rd))))));simp only [List.nil_append,List.append_nil,List.append_assoc,List.cons_append,yN] at this;exact this),h.nodup,h.base,(by intro y hy;(try simp only [List.mem_append] at hy);rcases hy with hy | hy <;> first | exact mD.plain y hy | exact rY.plain y hy)⟩
theorem abP (x:Host) (cs:List Value) (F:List Nat) (k:Int) (w:World) (h:rd w x cs F) (hm:F9 x k = x) (hk0:0≤k) (hk:k+wJ x≤1073741823) :
 Calls Tryz.prog 31 #[.agg cs.toArray,.int .i64 k] w fun e w'=>e = .returned (.int .i64 (k+wJ x))∧Below w.heap.size w w':=by
 obtain ⟨gu,gy,jw,kJ,kK,qU,hck,su,hname,dO,vg,hmem,uI,jq⟩:=iy h;clear h;subst hck;simp only [wJ] at hk ⊢;push_cast at hk ⊢;have e0:EX xP bC x.labels (k) = x.labels:=congrArg (fun z:Host=>z.labels) hm;have e1:EX D8 kC x.aT (k+(cO bC x.labels:Int)) = x.aT:=congrArg (fun z:Host=>z.aT) hm;clear hm;have hbl:=aj w;go_enter Tryz.func31,Tryz.ntmps31;go_wp2_with fail
 generalize GY:World.alloc w _ = wa;replace hbl:Below w.heap.size w wa:=GY ▸ ak (aj w) _;have hz:w.heap.size < wa.heap.size:=by rw [← GY];simp
 replace dO:Sl wa x.labels gu gy jw:=Sl.ext dO hbl;have xR:wa.cell? ⟨w.heap.size,1,none⟩ = some (.slice gu x.labels.length gy):=by rw [← GY,cell_of_row _ _ _ _ _ _ (heap_alloc_new w _)];rfl
 replace jq:Sl wa x.aT kJ kK qU:=Sl.ext jq hbl;have PL:wa.cell? ⟨w.heap.size,5,none⟩ = some (.slice kJ x.aT.length kK):=by rw [← GY,cell_of_row _ _ _ _ _ _ (heap_alloc_new w _)];rfl
 clear GY;refine (ER x.labels _ _ _ _ (k) _ dO rfl e0 O' O').mono ?_;rintro e w1 ⟨rfl,hn⟩;replace dO:=Sl.ext dO hn;replace xR:=((ay hn).1 _ _ hz).trans xR;replace jq:=Sl.ext jq hn;replace PL:=((ay hn).1 _ _ hz).trans PL;replace hz:=Nat.lt_of_lt_of_le hz hn.size;replace hbl:=ah hbl hn;clear hn;go_wp2_with fail
 refine (XV x.aT _ _ _ _ (k+(cO bC x.labels:Int)) _ jq rfl e1 O' O').mono ?_;rintro e w2 ⟨rfl,hn⟩;replace dO:=Sl.ext dO hn;replace xR:=((ay hn).1 _ _ hz).trans xR;replace jq:=Sl.ext jq hn;replace PL:=((ay hn).1 _ _ hz).trans PL;replace hz:=Nat.lt_of_lt_of_le hz hn.size;replace hbl:=ah hbl hn;clear hn;go_wp2_with fail
 go_ret
 exact ⟨by first | rfl | (simp only [Int.add_assoc,Int.natCast_add];rfl),hbl⟩
def Jt (x:nI) (k:Int):nI:={ x with labels:=EX xP bC x.labels (k),needs:=EX H9 fZ x.needs (k+(cO bC x.labels:Int)),tolerances:=EX rC bJ x.tolerances (k+(cO bC x.labels:Int)+(cO fZ x.needs:Int)) }
def uM (x:nI):Nat:=cO bC x.labels+cO fZ x.needs+cO bJ x.tolerances
theorem Pz (x:nI) (k:Int):uM (Jt x k) = uM x:=by simp [uM,Jt,iY qC,iY MG,iY DC]
theorem ZE (x:nI) (k:Int):Jt (Jt x k) k = Jt x k:=by simp [Jt,qg qC Iy,qg MG adQ,qg DC Uy,iY qC,iY MG,iY DC]
theorem Oc (x:nI) (cs:List Value) (F:List Nat) (B:Nat) (k:Int) (w:World) (h:Own w B x cs F) (hk0:0≤k) (hk:k+uM x≤1073741823) :
 Calls Tryz.prog 28 #[.agg cs.toArray,.int .i64 k] w fun e w'=>e = .returned (.int .i64 (k+uM x))∧Own w' B (Jt x k) cs F∧nN F w w':=by
 have hr:=h.rd;obtain ⟨gu,gy,jw,oh,nT,wG,fA,fB,jY,hck,su,hname,dO,vg,hmem,BJ,mX,eG⟩:=dL hr;clear hr;subst hck su;simp only [uM] at hk ⊢;push_cast at hk ⊢;have hnd:=h.nodup;simp only [List.nodup_append,List.mem_append] at hnd;have agN:∀y∈jw,y∉wG:=fun y ha hb=>hnd.2.2 y ha y (.inl hb) rfl;have agO:∀y∈wG,y∉jw:=fun y hb ha=>hnd.2.2 y ha y (.inl hb) rfl;have Zc:∀y∈jw,y∉jY:=fun y ha hb=>hnd.2.2 y ha y (.inr hb) rfl;have Zd:∀y∈jY,y∉jw:=fun y hb ha=>hnd.2.2 y ha y (.inr hb) rfl;have aaN:∀y∈wG,y∉jY:=fun y ha hb=>hnd.2.1.2.2 y ha y hb rfl;have aaO:∀y∈jY,y∉wG:=fun y hb ha=>hnd.2.1.2.2 y ha y hb rfl;have mD:Own w B x.labels [.slice gu x.labels.length gy] jw:=⟨dO,hnd.1,fun y hy=>h.base y (by simp [hy]),fun y hy=>h.plain y (by simp [hy])⟩;have NJ:Own w B x.needs [.slice oh x.needs.length nT] wG:=⟨mX,hnd.2.1.1,fun y hy=>h.base y (by simp [hy]),fun y hy=>h.plain y (by simp [hy])⟩;have zK:Own w B x.tolerances [.slice fA x.tolerances.length fB] jY:=⟨eG,hnd.2.1.2.1,fun y hy=>h.base y (by simp [hy]),fun y hy=>h.plain y (by simp [hy])⟩;go_enter Tryz.func28,Tryz.ntmps28;go_wp2_with fail
 generalize GY:World.alloc w _ = wa;have hUa:nN (jw++(wG++(jY))) w wa:=GY ▸ nN.lq _ (ak (aj w) _);have hz:w.heap.size < wa.heap.size:=by rw [← GY];simp
 replace mD:Own wa B x.labels [.slice gu x.labels.length gy] jw:=GY ▸ mD.alloc _;have Uz:w.heap.size∉jw:=fun hy=>Nat.lt_irrefl _ (h.lt _ (by simp [hy]));have xR:wa.cell? ⟨w.heap.size,1,none⟩ = some (.slice gu x.labels.length gy):=by rw [← GY,cell_of_row _ _ _ _ _ _ (heap_alloc_new w _)];rfl
 replace NJ:Own wa B x.needs [.slice oh x.needs.length nT] wG:=GY ▸ NJ.alloc _;have akO:w.heap.size∉wG:=fun hy=>Nat.lt_irrefl _ (h.lt _ (by simp [hy]));have MH:wa.cell? ⟨w.heap.size,5,none⟩ = some (.slice oh x.needs.length nT):=by rw [← GY,cell_of_row _ _ _ _ _ _ (heap_alloc_new w _)];rfl
 replace zK:Own wa B x.tolerances [.slice fA x.tolerances.length fB] jY:=GY ▸ zK.alloc _;have VL:w.heap.size∉jY:=fun hy=>Nat.lt_irrefl _ (h.lt _ (by simp [hy]));have wV:wa.cell? ⟨w.heap.size,6,none⟩ = some (.slice fA x.tolerances.length fB):=by rw [← GY,cell_of_row _ _ _ _ _ _ (heap_alloc_new w _)];rfl
 clear GY;refine (H7 x.labels _ _ _ _ _ (k) _ mD rfl O' O').mono ?_;rintro e w1 ⟨rfl,XT,Bf⟩;replace xR:=(World.cell?_of_block (a:=⟨w.heap.size,1,none⟩) (Bf.block _ hz Uz)).trans xR;replace NJ:=Bf.own NJ agO;replace MH:=(World.cell?_of_block (a:=⟨w.heap.size,5,none⟩) (Bf.block _ hz Uz)).trans MH;replace zK:=Bf.own zK Zd;replace wV:=(World.cell?_of_block (a:=⟨w.heap.size,6,none⟩) (Bf.block _ hz Uz)).trans wV;replace hz:=Nat.lt_of_lt_of_le hz Bf.size;replace mD:=XT;go_wp2_with fail
 refine (ZP x.needs _ _ _ _ _ (k+(cO bC x.labels:Int)) _ NJ rfl O' O').mono ?_;rintro e w2 ⟨rfl,atv,VN⟩;replace mD:=VN.own mD agN;replace xR:=(World.cell?_of_block (a:=⟨w.heap.size,1,none⟩) (VN.block _ hz akO)).trans xR;replace MH:=(World.cell?_of_block (a:=⟨w.heap.size,5,none⟩) (VN.block _ hz akO)).trans MH;replace zK:=VN.own zK aaO;replace wV:=(World.cell?_of_block (a:=⟨w.heap.size,6,none⟩) (VN.block _ hz akO)).trans wV;replace hz:=Nat.lt_of_lt_of_le hz VN.size;replace NJ:=atv;go_wp2_with fail
 refine (Qw x.tolerances _ _ _ _ _ (k+(cO bC x.labels:Int)+(cO fZ x.needs:Int)) _ zK rfl O' O').mono ?_;rintro e w3 ⟨rfl,akP,FP⟩;replace mD:=FP.own mD Zc;replace xR:=(World.cell?_of_block (a:=⟨w.heap.size,1,none⟩) (FP.block _ hz VL)).trans xR;replace NJ:=FP.own NJ aaN;replace MH:=(World.cell?_of_block (a:=⟨w.heap.size,5,none⟩) (FP.block _ hz VL)).trans MH;replace wV:=(World.cell?_of_block (a:=⟨w.heap.size,6,none⟩) (FP.block _ hz VL)).trans wV;replace hz:=Nat.lt_of_lt_of_le hz FP.size;replace zK:=akP;go_wp2_with fail
 go_ret
 refine ⟨by first | rfl | (simp only [Int.add_assoc,Int.natCast_add];rfl),?_,(((hUa.trans (Bf.mono (G:=jw++(wG++(jY))) (fun y hy=>by simp [hy]))).trans (VN.mono (G:=jw++(wG++(jY))) (fun y hy=>by simp [hy]))).trans (FP.mono (G:=jw++(wG++(jY))) (fun y hy=>by simp [hy])))⟩;exact ⟨(by have:=(nJ (rdStr w3 (x.name) (rV hname)) (nJ (mD.rd) (nJ (jL w3 (x.cpu) vg) (nJ (jL w3 (x.mem) hmem) (nJ (jL w3 (x.rank) BJ) (nJ (NJ.rd) (zK.rd)))))));simp only [List.nil_append,List.append_nil,List.append_assoc,List.cons_append,yN] at this;exact this),h.nodup,h.base,(by intro y hy;(try simp only [List.mem_append] at hy);rcases hy with hy | hy | hy <;> first | exact mD.plain y hy | exact NJ.plain y hy | exact zK.plain y hy)⟩
theorem adL (x:nI) (cs:List Value) (F:List Nat) (k:Int) (w:World) (h:rd w x cs F) (hm:Jt x k = x) (hk0:0≤k) (hk:k+uM x≤1073741823) :
 Calls Tryz.prog 30 #[.agg cs.toArray,.int .i64 k] w fun e w'=>e = .returned (.int .i64 (k+uM x))∧Below w.heap.size w w':=by
 obtain ⟨gu,gy,jw,oh,nT,wG,fA,fB,jY,hck,su,hname,dO,vg,hmem,BJ,mX,eG⟩:=dL h;clear h;subst hck;simp only [uM] at hk ⊢;push_cast at hk ⊢;have e0:EX xP bC x.labels (k) = x.labels:=congrArg (fun z:nI=>z.labels) hm;have e1:EX H9 fZ x.needs (k+(cO bC x.labels:Int)) = x.needs:=congrArg (fun z:nI=>z.needs) hm;have e2:EX rC bJ x.tolerances (k+(cO bC x.labels:Int)+(cO fZ x.needs:Int)) = x.tolerances:=congrArg (fun z:nI=>z.tolerances) hm;clear hm;have hbl:=aj w;go_enter Tryz.func30,Tryz.ntmps30;go_wp2_with fail
 generalize GY:World.alloc w _ = wa;replace hbl:Below w.heap.size w wa:=GY ▸ ak (aj w) _;have hz:w.heap.size < wa.heap.size:=by rw [← GY];simp
 replace dO:Sl wa x.labels gu gy jw:=Sl.ext dO hbl;have xR:wa.cell? ⟨w.heap.size,1,none⟩ = some (.slice gu x.labels.length gy):=by rw [← GY,cell_of_row _ _ _ _ _ _ (heap_alloc_new w _)];rfl
 replace mX:Sl wa x.needs oh nT wG:=Sl.ext mX hbl;have MH:wa.cell? ⟨w.heap.size,5,none⟩ = some (.slice oh x.needs.length nT):=by rw [← GY,cell_of_row _ _ _ _ _ _ (heap_alloc_new w _)];rfl
 replace eG:Sl wa x.tolerances fA fB jY:=Sl.ext eG hbl;have wV:wa.cell? ⟨w.heap.size,6,none⟩ = some (.slice fA x.tolerances.length fB):=by rw [← GY,cell_of_row _ _ _ _ _ _ (heap_alloc_new w _)];rfl
 clear GY;refine (ER x.labels _ _ _ _ (k) _ dO rfl e0 O' O').mono ?_;rintro e w1 ⟨rfl,hn⟩;replace dO:=Sl.ext dO hn;replace xR:=((ay hn).1 _ _ hz).trans xR;replace mX:=Sl.ext mX hn;replace MH:=((ay hn).1 _ _ hz).trans MH;replace eG:=Sl.ext eG hn;replace wV:=((ay hn).1 _ _ hz).trans wV;replace hz:=Nat.lt_of_lt_of_le hz hn.size;replace hbl:=ah hbl hn;clear hn;go_wp2_with fail
 refine (ZQ x.needs _ _ _ _ (k+(cO bC x.labels:Int)) _ mX rfl e1 O' O').mono ?_;rintro e w2 ⟨rfl,hn⟩;replace dO:=Sl.ext dO hn;replace xR:=((ay hn).1 _ _ hz).trans xR;replace mX:=Sl.ext mX hn;replace MH:=((ay hn).1 _ _ hz).trans MH;replace eG:=Sl.ext eG hn;replace wV:=((ay hn).1 _ _ hz).trans wV;replace hz:=Nat.lt_of_lt_of_le hz hn.size;replace hbl:=ah hbl hn;clear hn;go_wp2_with fail
 refine (Qx x.tolerances _ _ _ _ (k+(cO bC x.labels:Int)+(cO fZ x.needs:Int)) _ eG rfl e2 O' O').mono ?_;rintro e w3 ⟨rfl,hn⟩;replace dO:=Sl.ext dO hn;replace xR:=((ay hn).1 _ _ hz).trans xR;replace mX:=Sl.ext mX hn;replace MH:=((ay hn).1 _ _ hz).trans MH;replace eG:=Sl.ext eG hn;replace wV:=((ay hn).1 _ _ hz).trans wV;replace hz:=Nat.lt_of_lt_of_le hz hn.size;replace hbl:=ah hbl hn;clear hn;go_wp2_with fail
 go_ret
 exact ⟨by first | rfl | (simp only [Int.add_assoc,Int.natCast_add];rfl),hbl⟩
theorem asY (x:Host):wJ x≤6 * x.wt:=by
 have h0:=FN Ry x.labels;have h1:=FN adP x.aT;simp only [wJ,wtS,Host.wt] at *;omega
theorem Pv (x:nI):uM x≤6 * x.wt:=by
 have h0:=FN Ry x.labels;have h1:=FN agJ x.needs;have h2:=FN WH x.tolerances;simp only [uM,wtS,nI.wt] at *;omega
end Go.Proofs.YtnedlmlpeplnfaaGreat
