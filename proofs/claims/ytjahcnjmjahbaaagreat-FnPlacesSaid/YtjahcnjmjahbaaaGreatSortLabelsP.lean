/- SortLabels in plain Lean. No condition. -/
import Derived.Test.YtjahcnjmjahbaaaGreatNeedLess
import Derived.Test.YtjahcnjmjahbaaaGreatStabM
import Derived.Test.YtjahcnjmjahbaaaGreatMarkOn
namespace Go.Proofs.YtjahcnjmjahbaaaGreat
open Go.ChangeShapes Go.WideShapes Go.ChangeAt Go.RowKit
set_option linter.unusedVariables false
set_option linter.unusedSimpArgs false
set_option maxHeartbeats 4000000
set_option maxRecDepth 100000
def fw (x y:aD):Int:=Lib.compareBytes x.key.data.toList y.key.data.toList
def BG (xs:List aD):List aD × Bool:=if sD (aE (kS fw) [] xs) = true then (aE (kS fw) [] xs,true) else (xs,false)
theorem ayQ {xs:List aD} (h:sD (aE (kS fw) [] xs) = true):BG xs = (aE (kS fw) [] xs,true):=if_pos h
theorem YO {xs:List aD} (h:sD (aE (kS fw) [] xs) = false):BG xs = (xs,false):=if_neg (by rw [h];simp)
theorem YQ {lt:aD→aD→Bool} {z:aD} : ∀(ys acc:List aD),z∈aE lt acc ys→z∈acc∨z∈ys
 | [],acc,h=>.inl h
 | y :: ys,acc,h=>by
   rw [aE] at h;rcases YQ ys _ h with h | h
   ·exact Bl
   ·exact .inr (List.mem_cons_of_mem _ h)
theorem YR {xs:List aD} {z:aD} (h:z∈aE (kS fw) [] xs):z∈xs:=by
 rcases YQ xs [] h with h | h
 ·cases h
 ·exact h
theorem YS (xs:List aD):(aE (kS fw) [] xs).length = xs.length:=by rw [rD];simp
theorem YT {lt:aD→aD→Bool} (f:aD→Nat) (y:aD):∀r:List aD,((OM lt y r).map f).sum = f y+(r.map f).sum
 | []=>by simp [OM]
 | x :: r=>by
   have:=YT (lt:=lt) f y r;unfold OM;split <;> simp only [List.map_cons,List.sum_cons] <;> omega
theorem YV {lt:aD→aD→Bool} (f:aD→Nat):∀xs acc:List aD,((aE lt acc xs).map f).sum = (acc.map f).sum+(xs.map f).sum
 | [],_=>by simp [aE]
 | x :: xs,acc=>by
   have h1:=YV (lt:=lt) f xs (OM lt x acc);have h2:=YT (lt:=lt) f x acc;rw [aE,h1,h2];exact qF
theorem YW (xs:List aD):kL aD.wt (BG xs).1 = kL aD.wt xs:=by
 have h:=YV (lt:=kS fw) aD.wt xs [];have hl:=YS xs;unfold BG kL;split
 ·dsimp only;simp only [List.map_nil,List.sum_nil] at h;omega
 ·rfl
theorem QF (xs ys:List bj) (A B:Option Addr) (c d:Nat) (F G:List Nat) (w:World) (h:Sl w xs A c F) (h':Sl w ys B d G) (oT:∀l∈xs,(l.values.length:Int)≤1048576) (hys:∀l∈ys,(l.values.length:Int)≤1048576) :
 Calls Tryz.prog 42 #[.slice A xs.length c,.slice B ys.length d] w fun e w'=>e = .returned (.bool (same yI xs ys))∧Below w.heap.size w w':=by
 have hc:=h.aM;unfold maxLen at hc;obtain ⟨db,cb⟩:=hc;have hd:=h'.aM;unfold maxLen at hd;obtain ⟨xX,M6⟩:=hd;by_cases hl:xs.length = ys.length
 ·have HL:=I hl;have bm:((xs.length:Int) != (ys.length:Int)) = false:=by simp [hl]
  clear hl;go_enter Tryz.func42,Tryz.ntmps42;go_wp2;go_loopw [5] (fun i wr=>∃k:Nat,k≤xs.length∧i = .int .i64 k∧Hid (same yI (xs.take k) (ys.take k) = true)∧Below w.heap.size w wr) (fun i _=>xs.length - (intOf i).toNat)
  case atStart=>exact ⟨0,Nat.zero_le _,rfl,by show _ = true;simp [same],aj _⟩
  case round =>
   obtain ⟨k,hk,rfl,Heq,az⟩:=hrel;by_cases ap:k < xs.length
   ·obtain ⟨b,o,ck,Fk,rfl,o9,hbs,hr,br,hc⟩:=(h.ext az).get ap;have fL:k < ys.length:=(by rw [← HL.out];exact ap);obtain ⟨b',o',TY,Xw,rfl,Ht,hbs',cj,zQ,hc'⟩:=(h'.ext az).get fL;obtain ⟨pX,pY,KG,ax,rfl,xO,iZ,wO⟩:=og hr;subst ax;obtain ⟨qO,qP,KL,ax,rfl,vC,hop2,zS⟩:=og cj;subst ax;obtain ⟨q0,q1,q2⟩:=jN 3 hc;obtain ⟨p0,p1,p2⟩:=jN 3 hc';clear hc hc';have PQ:=oT xs[k] (List.getElem_mem ..);have sF:=hys ys[k] (List.getElem_mem ..);have OR:=I (fun wq hq=>TN xs[k] ys[k] _ _ _ _ wq (aJ hr hq) (aJ cj hq) PQ sF);have ik:=I (fun wq hq=>TN ys[k] xs[k] _ _ _ _ wq (aJ cj hq) (aJ hr hq) sF PQ);have ET:=amW xs[k] ys[k];clear oT hys;cases h1:nD xs[k] ys[k] with
    | true =>have he:yI xs[k] ys[k] = false:=(by rw [← ET,h1];rfl);have HS:=I (nP (k+1) JS HL.out);rw [h1] at OR;clear ET he h1;exact Lz
    | false =>
      cases h2:nD ys[k] xs[k] with
      | true =>have he:yI xs[k] ys[k] = false:=(by rw [← ET,h1,h2];rfl);have HS:=I (nP (k+1) JS HL.out);rw [h1] at OR;rw [h2] at ik;clear ET he h1 h2;exact Lz
      | false =>
        have he:yI xs[k] ys[k] = true:=(by rw [← ET,h1,h2];rfl);have HS:=I (show same yI (xs.take (k+1)) (ys.take (k+1)) = true by rw [iC ap fL,Heq.out,he];rfl);rw [h1] at OR;rw [h2] at ik;clear ET he h1 h2;go_wp2_with fail
        refine aF wr U' U' BP ?_
        repeat ((first | refine aG Z ?_ | refine aH _ Z Hp ?_);simp only [Act.put,pz])
        refine aN ?_;intro wn hn;replace hn:=hn.out;go_wp2;exact ⟨⟨k+1,O,N',HS,ah az hn⟩,by simp [intOf];omega⟩
   ·exact JQ
 ·have bm:((xs.length:Int) != (ys.length:Int)) = true:=by simp;omega
  have HL:=I (qN (eq:=yI) hl);clear hl;go_enter Tryz.func42,Tryz.ntmps42;go_wp2;go_ret
  exact ⟨by rw [HL.out];rfl,aj _⟩
def Aj (x:ba):Bool:=Qs x.name&&sD x.labels&&La x.aT&&(decide (0≤x.aw)&&decide (0≤x.mem))&&(decide (1≤x.aq)&&decide (x.aq≤20))
theorem sQ (x:ba) (cs:List Value) (F:List Nat) (w:World) (h:rd w x cs F) (pv:(x.name.size:Int)≤1048576) (gg:(x.labels.length:Int)≤1048576) (fN:∀l∈x.labels,(l.key.size:Int)≤1048576∧(l.value.size:Int)≤1048576) (iu:(x.aT.length:Int)≤1048576) (gx:∀l∈x.aT,(l.key.size:Int)≤1048576∧(l.value.size:Int)≤1048576) :
 Calls Tryz.prog 36 #[.agg cs.toArray] w fun e w'=>e = .returned (.bool (Aj x))∧Below w.heap.size w w':=by
 have Zb:=I fN;have Ux:=I gx;clear fN gx;have hr:=h;obtain ⟨gu,gy,jw,kJ,kK,qU,ax,hF,hname,dO,vg,cE,uI,jq⟩:=iy hr;subst ax;clear hr hF;go_enter Tryz.func36,Tryz.ntmps36
 go_wp2_with (first
  | (go_at_call 75;refine (Ro x.name _ pv).mono ?_;rintro e w2 ⟨rfl,ao⟩;obtain ⟨cb,cG⟩:=ay ao;have cI:w.heap.size < w2.heap.size:=(sq ao.size))
  | (go_at_call 76;refine (Jv x.labels _ _ _ _ _ (dO.ext bu) rfl gg Zb.out).mono ?_;rintro e w3 ⟨rfl,bd⟩;obtain ⟨cX,hf3⟩:=ay bd;have ez:w.heap.size < w3.heap.size:=(sq bd.size))
  | (go_at_call 77;refine (ZK x.aT _ _ _ _ _ (jq.ext bu) rfl iu Ux.out).mono ?_;rintro e w4 ⟨rfl,bL⟩;obtain ⟨eA,hf4⟩:=ay bL;have Wy:w.heap.size < w4.heap.size:=(sq bL.size))
  | go_in)
 all_goals first
  | (go_ret;refine ⟨?_,bu⟩;refine congrArg (fun b=>Ending.returned (Value.bool b)) ?_;show (_:Bool) = _;(try clear cb cG);(try clear cX hf3);(try clear eA hf4);unfold Aj;first | (simp [*];done) | (simp [*];omega) | (simp_all;done) | (simp_all;omega))
  | skip
theorem rO (x:ba) (cs:List Value) (F:List Nat) (w:World) (h:rd w x cs F) (pv:(x.name.size:Int)≤1048576) (gg:(x.labels.length:Int)≤1048576) (fN:∀l∈x.labels,(l.key.size:Int)≤1048576∧(l.value.size:Int)≤1048576) (iu:(x.aT.length:Int)≤1048576) (gx:∀l∈x.aT,(l.key.size:Int)≤1048576∧(l.value.size:Int)≤1048576) :
 Calls Tryz.prog 56 #[.agg cs.toArray] w fun e w'=>e = .returned (.bool (Aj x))∧Below w.heap.size w w':=by
 have Zb:=I fN;have Ux:=I gx;clear fN gx;have hr:=h;obtain ⟨gu,gy,jw,kJ,kK,qU,ax,hF,hname,dO,vg,cE,uI,jq⟩:=iy hr;subst ax;clear hr hF;go_enter Tryz.func56,Tryz.ntmps56
 go_wp2_with (first
  | (go_at_call 89;refine (Rq x.name _ pv).mono ?_;rintro e w2 ⟨rfl,ao⟩;obtain ⟨cb,cG⟩:=ay ao;have cI:w.heap.size < w2.heap.size:=(sq ao.size))
  | (go_at_call 90;refine (Jw x.labels _ _ _ _ _ (dO.ext bu) rfl gg Zb.out).mono ?_;rintro e w3 ⟨rfl,bd⟩;obtain ⟨cX,hf3⟩:=ay bd;have ez:w.heap.size < w3.heap.size:=(sq bd.size))
  | (go_at_call 93;refine (ZL x.aT _ _ _ _ _ (jq.ext bu) rfl iu Ux.out).mono ?_;rintro e w4 ⟨rfl,bL⟩;obtain ⟨eA,hf4⟩:=ay bL;have Wy:w.heap.size < w4.heap.size:=(sq bL.size))
  | go_in)
 all_goals first
  | (go_ret;refine ⟨?_,bu⟩;refine congrArg (fun b=>Ending.returned (Value.bool b)) ?_;show (_:Bool) = _;(try clear cb cG);(try clear cX hf3);(try clear eA hf4);unfold Aj;first | (simp [*];done) | (simp [*];omega) | (simp_all;done) | (simp_all;omega))
  | skip
theorem tZ (x:ba) (cs:List Value) (F:List Nat) (w:World) (h:rd w x cs F) (hw:(x.wt:Int)≤1048576) :
 Calls Tryz.prog 56 #[.agg cs.toArray] w fun e w'=>e = .returned (.bool (Aj x))∧Below w.heap.size w w':=by
 have ga:x.wt = x.name.size+kL aD.wt x.labels+kL iU.wt x.aT:=rfl;obtain ⟨gg,fN⟩:=sW (xs:=x.labels) O;obtain ⟨iu,gx⟩:=BH (xs:=x.aT) O;exact rO x cs F w h O gg fN iu gx
theorem ZY (a b:ba) (cs ds:List Value) (F G:List Nat) (w:World) (h:rd w a cs F) (h':rd w b ds G) (GY:(a.wt:Int)≤1048576) (we:(b.wt:Int)≤1048576) :
 Calls Tryz.prog 12 #[.agg cs.toArray,.agg ds.toArray] w fun e w'=>e = .returned (.bool (ou a b))∧Below w.heap.size w w':=by
 obtain ⟨dU,dV,Ba,kY,kZ,NR,ax,rfl,hname1,jr,IQ,IU,KD,yO⟩:=iy h;subst ax;obtain ⟨bY,bZ,iq,wP,wQ,Qe,ax,rfl,jW,dA,kQ,lg,Nh,Bd⟩:=iy h';subst ax;clear GY we;cases e0:(a.name.toList == b.name.toList) with
 | false =>have HF:=I (show ou a b = false by simp only [ou,e0,Bool.and_false,Bool.false_and,Bool.true_and,Bool.and_true]);have n0:(a.name.toList != b.name.toList) = true:=(by rw [bne,e0];rfl);go_enter Tryz.func12,Tryz.ntmps12;exact rS
 | true =>
   cases e1:same vZ a.labels b.labels with
   | false =>have HF:=I (show ou a b = false by simp only [ou,e0,e1,Bool.and_false,Bool.false_and,Bool.true_and,Bool.and_true]);have n0:(a.name.toList != b.name.toList) = false:=(by rw [bne,e0];rfl);have LH:=I e1;clear e1;go_enter Tryz.func12,Tryz.ntmps12;exact mn
   | true =>
     cases e2:(a.aw == b.aw) with
     | false =>have HF:=I (show ou a b = false by simp only [ou,e0,e1,e2,Bool.and_false,Bool.false_and,Bool.true_and,Bool.and_true]);have n0:(a.name.toList != b.name.toList) = false:=(by rw [bne,e0];rfl);have LH:=I e1;clear e1;have n2:(a.aw != b.aw) = true:=(by rw [bne,e2];rfl);go_enter Tryz.func12,Tryz.ntmps12;exact mn
     | true =>
       cases e3:(a.mem == b.mem) with
       | false =>have HF:=I (show ou a b = false by simp only [ou,e0,e1,e2,e3,Bool.and_false,Bool.false_and,Bool.true_and,Bool.and_true]);have n0:(a.name.toList != b.name.toList) = false:=(by rw [bne,e0];rfl);have LH:=I e1;clear e1;have n2:(a.aw != b.aw) = false:=(by rw [bne,e2];rfl);have n3:(a.mem != b.mem) = true:=(by rw [bne,e3];rfl);go_enter Tryz.func12,Tryz.ntmps12;exact mn
       | true =>
         cases e4:(a.aq == b.aq) with
         | false =>have HF:=I (show ou a b = false by simp only [ou,e0,e1,e2,e3,e4,Bool.and_false,Bool.false_and,Bool.true_and,Bool.and_true]);have n0:(a.name.toList != b.name.toList) = false:=(by rw [bne,e0];rfl);have LH:=I e1;clear e1;have n2:(a.aw != b.aw) = false:=(by rw [bne,e2];rfl);have n3:(a.mem != b.mem) = false:=(by rw [bne,e3];rfl);have n4:(a.aq != b.aq) = true:=(by rw [bne,e4];rfl);go_enter Tryz.func12,Tryz.ntmps12;exact mn
         | true =>
           have HF:=I (show ou a b = same Aq a.aT b.aT by simp only [ou,e0,e1,e2,e3,e4,Bool.and_false,Bool.false_and,Bool.true_and,Bool.and_true]);have n0:(a.name.toList != b.name.toList) = false:=(by rw [bne,e0];rfl);have LH:=I e1;clear e1;have n2:(a.aw != b.aw) = false:=(by rw [bne,e2];rfl);have n3:(a.mem != b.mem) = false:=(by rw [bne,e3];rfl);have n4:(a.aq != b.aq) = false:=(by rw [bne,e4];rfl);by_cases hl:a.aT.length = b.aT.length
           ·have HL:=I hl;have vG:((a.aT.length:Int) != (b.aT.length:Int)) = false:=(by simp [hl]);have nH:=yO.aM;unfold maxLen at nH;clear hl;go_enter Tryz.func12,Tryz.ntmps12;go_wp2_with (first | (go_at_call 40;refine (pJ a.labels b.labels _ _ _ _ _ _ _ (jr.ext bu) (dA.ext bu)).mono ?_;rw [LH.out];rintro e w1 ⟨rfl,bm⟩;obtain ⟨db,eB⟩:=ay bm;have zO:w.heap.size < w1.heap.size:=(sq bm.size);have CO:w.heap.size+1 < w1.heap.size:=(sq bm.size)))
            have yN:=oG.new w [.string a.name,.slice dU a.labels.length dV,.int .i64 a.aw,.int .i64 a.mem,.int .i64 a.aq,.slice kY a.aT.length kZ] 38;have yP:=oG.new (w.alloc (.cells ([.string a.name,.slice dU a.labels.length dV,.int .i64 a.aw,.int .i64 a.mem,.int .i64 a.aq,.slice kY a.aT.length kZ]:List Value).toArray 38)) [.string b.name,.slice bY b.labels.length bZ,.int .i64 b.aw,.int .i64 b.mem,.int .i64 b.aq,.slice wP b.aT.length wQ] 38;have KA:=((yN.ext (ak (aj _) _)).ext bm);have KB:=(yP.ext bm);have kx:=KA.cell (i:=5) (u:=.slice kY a.aT.length kZ) rfl;have ky:w1.cell? ⟨w.heap.size+1,5,none⟩ = some (.slice wP b.aT.length wQ):=(by have:=KB.cell (i:=5) (u:=.slice wP b.aT.length wQ) rfl;simpa using this);clear yN yP KA KB;have lI:Below w.heap.size w w1:=bu;go_loopw [5] (fun i wr=>∃k:Nat,k≤a.aT.length∧i = .int .i64 k∧Hid (same Aq (a.aT.take k) (b.aT.take k) = true)∧Below w1.heap.size w1 wr) (fun i _=>a.aT.length - (intOf i).toNat)
            case atStart=>exact ⟨0,Nat.zero_le _,rfl,by show _ = true;simp [same],aj _⟩
            case round =>
             obtain ⟨k,hk,rfl,Heq,az⟩:=hrel;have VF:=r' az kx zO;have VJ:=r' az ky CO;have tX:w.heap.size < wr.heap.size:=World.block_lt_of_cell? wr _ VF;have C5:w.heap.size+1 < wr.heap.size:=World.block_lt_of_cell? wr _ VJ;have AW:Below w.heap.size w wr:=ah lI az;by_cases ap:k < a.aT.length
             ·obtain ⟨q,o,ck,Fk,rfl,o9,hbs,hr,br,hc⟩:=(Sl.ext (w':=wr) (A:=kY) (c:=kZ) yO AW).get ap;have fL:k < b.aT.length:=(by rw [← HL.out];exact ap);obtain ⟨q',o',TY,Xw,rfl,Ht,hbs',cj,zQ,hc'⟩:=(Sl.ext (w':=wr) (A:=wP) (c:=wQ) Bd AW).get fL;obtain ⟨ax,rfl,adC,abS,KZ⟩:=oK hr;subst ax;obtain ⟨ax,rfl,hkey4,atA,asy⟩:=oK cj;subst ax;obtain ⟨q0,q1,q2⟩:=jN 3 hc;obtain ⟨p0,p1,p2⟩:=jN 3 hc';clear hc hc';go_wp2_with fail
              refine aF wr U' U' BP ?_
              repeat (first
               | (apply aG
                  case hw=>rfl
                  simp only [Act.put,pz])
               | (apply aH
                  case hw=>rfl
                  case h =>
                   intro wq hq;have dP:=(aB hq).1;have lJ:=(aB hq).2;go_simp
                   first
                    | exact ⟨hq,rfl⟩
                    | exact ⟨aQ hq _,rfl⟩
                    | ((refine Gj (v:=.bool (!(Aq a.aT[k] b.aT[k]))) ?_ hq;unfold Aq;repeat' split;all_goals simp [*]))
                    | (simp only [↓IntWalk.iteOmega];exact ⟨hq,rfl⟩)
                  simp only [Act.put,pz]))
              exact It
             ·have bz:k = a.aT.length:=O;exact I7
           ·have vG:((a.aT.length:Int) != (b.aT.length:Int)) = true:=(by simp;omega);have HS:=I (qN (eq:=Aq) hl);clear hl;go_enter Tryz.func12,Tryz.ntmps12;go_wp2_with (first | (go_at_call 40;refine (pJ a.labels b.labels _ _ _ _ _ _ _ (jr.ext bu) (dA.ext bu)).mono ?_;rw [LH.out];rintro e w1 ⟨rfl,bm⟩;obtain ⟨db,eB⟩:=ay bm;have zO:w.heap.size < w1.heap.size:=(sq bm.size);have CO:w.heap.size+1 < w1.heap.size:=(sq bm.size)))
            go_ret
            exact ⟨by rw [HF.out,HS.out];rfl,bu⟩
theorem acn (a b:nI) (cs ds:List Value) (F G:List Nat) (w:World) (h:rd w a cs F) (h':rd w b ds G) (GY:(a.wt:Int)≤1048576) (we:(b.wt:Int)≤1048576) :
 Calls Tryz.prog 15 #[.agg cs.toArray,.agg ds.toArray] w fun e w'=>e = .returned (.bool (vF a b))∧Below w.heap.size w w':=by
 have VK:=I (fun l hl=>((Aa (xs:=a.ai) (by have e:a.wt = a.name.size+kL aD.wt a.labels+kL bj.wt a.ai+kL bH.wt a.ae:=rfl;omega)).2 l hl).2.1);have VL:=I (fun l hl=>((Aa (xs:=b.ai) (by have e:b.wt = b.name.size+kL aD.wt b.labels+kL bj.wt b.ai+kL bH.wt b.ae:=rfl;omega)).2 l hl).2.1);obtain ⟨dU,dV,Ba,mJ,mM,Vb,fK,fM,Fz,ax,rfl,hname1,jr,IQ,IU,Sj,Bv,qc⟩:=dL h;subst ax;obtain ⟨bY,bZ,iq,eU,eX,jV,bg,bn,dK,ax,rfl,jW,dA,kQ,lg,lG,iO,bK⟩:=dL h';subst ax;clear GY we;cases e0:(a.name.toList == b.name.toList) with
 | false =>have HF:=I (show vF a b = false by simp only [vF,e0,Bool.and_false,Bool.false_and,Bool.true_and,Bool.and_true]);have n0:(a.name.toList != b.name.toList) = true:=(by rw [bne,e0];rfl);go_enter Tryz.func15,Tryz.ntmps15;exact rS
 | true =>
   cases e1:same vZ a.labels b.labels with
   | false =>have HF:=I (show vF a b = false by simp only [vF,e0,e1,Bool.and_false,Bool.false_and,Bool.true_and,Bool.and_true]);have n0:(a.name.toList != b.name.toList) = false:=(by rw [bne,e0];rfl);have LH:=I e1;clear e1;go_enter Tryz.func15,Tryz.ntmps15;exact mn
   | true =>
     cases e2:(a.aw == b.aw) with
     | false =>have HF:=I (show vF a b = false by simp only [vF,e0,e1,e2,Bool.and_false,Bool.false_and,Bool.true_and,Bool.and_true]);have n0:(a.name.toList != b.name.toList) = false:=(by rw [bne,e0];rfl);have LH:=I e1;clear e1;have n2:(a.aw != b.aw) = true:=(by rw [bne,e2];rfl);go_enter Tryz.func15,Tryz.ntmps15;exact mn
     | true =>
       cases e3:(a.mem == b.mem) with
       | false =>have HF:=I (show vF a b = false by simp only [vF,e0,e1,e2,e3,Bool.and_false,Bool.false_and,Bool.true_and,Bool.and_true]);have n0:(a.name.toList != b.name.toList) = false:=(by rw [bne,e0];rfl);have LH:=I e1;clear e1;have n2:(a.aw != b.aw) = false:=(by rw [bne,e2];rfl);have n3:(a.mem != b.mem) = true:=(by rw [bne,e3];rfl);go_enter Tryz.func15,Tryz.ntmps15;exact mn
       | true =>
         cases e4:(a.av == b.av) with
         | false =>have HF:=I (show vF a b = false by simp only [vF,e0,e1,e2,e3,e4,Bool.and_false,Bool.false_and,Bool.true_and,Bool.and_true]);have n0:(a.name.toList != b.name.toList) = false:=(by rw [bne,e0];rfl);have LH:=I e1;clear e1;have n2:(a.aw != b.aw) = false:=(by rw [bne,e2];rfl);have n3:(a.mem != b.mem) = false:=(by rw [bne,e3];rfl);have n4:(a.av != b.av) = true:=(by rw [bne,e4];rfl);go_enter Tryz.func15,Tryz.ntmps15;exact mn
         | true =>
           cases e5:same yI a.ai b.ai with
           | false =>
             have HF:=I (show vF a b = false by simp only [vF,e0,e1,e2,e3,e4,e5,Bool.and_false,Bool.false_and,Bool.true_and,Bool.and_true]);have n0:(a.name.toList != b.name.toList) = false:=(by rw [bne,e0];rfl);have LH:=I e1;clear e1;have n2:(a.aw != b.aw) = false:=(by rw [bne,e2];rfl);have n3:(a.mem != b.mem) = false:=(by rw [bne,e3];rfl);have n4:(a.av != b.av) = false:=(by rw [bne,e4];rfl);have QD:=I e5;clear e5;go_enter Tryz.func15,Tryz.ntmps15;go_wp2_with (first | (go_at_call 40;refine (pJ a.labels b.labels _ _ _ _ _ _ _ (jr.ext bu) (dA.ext bu)).mono ?_;rw [LH.out];rintro e w1 ⟨rfl,bm⟩;obtain ⟨db,eB⟩:=ay bm;have zO:w.heap.size < w1.heap.size:=(sq bm.size);have CO:w.heap.size+1 < w1.heap.size:=(sq bm.size)) | (go_at_call 42;refine (QF a.ai b.ai _ _ _ _ _ _ _ (Bv.ext bu) (iO.ext bu) VK.out VL.out).mono ?_;rw [QD.out];rintro e w5 ⟨rfl,bt⟩;obtain ⟨kO,j'⟩:=ay bt;have Sm:w.heap.size < w5.heap.size:=(sq bt.size);have WW:w.heap.size+1 < w5.heap.size:=(sq bt.size)))
             go_ret
             exact ⟨by rw [HF.out];rfl,bu⟩
           | true =>
             have HF:=I (show vF a b = same oP a.ae b.ae by simp only [vF,e0,e1,e2,e3,e4,e5,Bool.and_false,Bool.false_and,Bool.true_and,Bool.and_true]);have n0:(a.name.toList != b.name.toList) = false:=(by rw [bne,e0];rfl);have LH:=I e1;clear e1;have n2:(a.aw != b.aw) = false:=(by rw [bne,e2];rfl);have n3:(a.mem != b.mem) = false:=(by rw [bne,e3];rfl);have n4:(a.av != b.av) = false:=(by rw [bne,e4];rfl);have QD:=I e5;clear e5;by_cases hl:a.ae.length = b.ae.length
             ·have HL:=I hl;have vG:((a.ae.length:Int) != (b.ae.length:Int)) = false:=(by simp [hl]);have nH:=qc.aM;unfold maxLen at nH;clear hl;go_enter Tryz.func15,Tryz.ntmps15;go_wp2_with (first | (go_at_call 40;refine (pJ a.labels b.labels _ _ _ _ _ _ _ (jr.ext bu) (dA.ext bu)).mono ?_;rw [LH.out];rintro e w1 ⟨rfl,bm⟩;obtain ⟨db,eB⟩:=ay bm;have zO:w.heap.size < w1.heap.size:=(sq bm.size);have CO:w.heap.size+1 < w1.heap.size:=(sq bm.size)) | (go_at_call 42;refine (QF a.ai b.ai _ _ _ _ _ _ _ (Bv.ext bu) (iO.ext bu) VK.out VL.out).mono ?_;rw [QD.out];rintro e w5 ⟨rfl,bt⟩;obtain ⟨kO,j'⟩:=ay bt;have Sm:w.heap.size < w5.heap.size:=(sq bt.size);have WW:w.heap.size+1 < w5.heap.size:=(sq bt.size)))
              have yN:=oG.new w [.string a.name,.slice dU a.labels.length dV,.int .i64 a.aw,.int .i64 a.mem,.int .i64 a.av,.slice mJ a.ai.length mM,.slice fK a.ae.length fM] 46;have yP:=oG.new (w.alloc (.cells ([.string a.name,.slice dU a.labels.length dV,.int .i64 a.aw,.int .i64 a.mem,.int .i64 a.av,.slice mJ a.ai.length mM,.slice fK a.ae.length fM]:List Value).toArray 46)) [.string b.name,.slice bY b.labels.length bZ,.int .i64 b.aw,.int .i64 b.mem,.int .i64 b.av,.slice eU b.ai.length eX,.slice bg b.ae.length bn] 46;have KA:=(((yN.ext (ak (aj _) _)).ext bm).ext bt);have KB:=((yP.ext bm).ext bt);have kx:=KA.cell (i:=6) (u:=.slice fK a.ae.length fM) rfl;have ky:w5.cell? ⟨w.heap.size+1,6,none⟩ = some (.slice bg b.ae.length bn):=(by have:=KB.cell (i:=6) (u:=.slice bg b.ae.length bn) rfl;simpa using this);clear yN yP KA KB;have lI:Below w.heap.size w w5:=bu;go_loopw [5] (fun i wr=>∃k:Nat,k≤a.ae.length∧i = .int .i64 k∧Hid (same oP (a.ae.take k) (b.ae.take k) = true)∧Below w5.heap.size w5 wr) (fun i _=>a.ae.length - (intOf i).toNat)
              case atStart=>exact ⟨0,Nat.zero_le _,rfl,by show _ = true;simp [same],aj _⟩
              case round =>
               obtain ⟨k,hk,rfl,Heq,az⟩:=hrel;have VF:=r' az kx Sm;have VJ:=r' az ky WW;have tX:w.heap.size < wr.heap.size:=World.block_lt_of_cell? wr _ VF;have C5:w.heap.size+1 < wr.heap.size:=World.block_lt_of_cell? wr _ VJ;have AW:Below w.heap.size w wr:=ah lI az;by_cases ap:k < a.ae.length
               ·obtain ⟨q,o,ck,Fk,rfl,o9,hbs,hr,br,hc⟩:=(Sl.ext (w':=wr) (A:=fK) (c:=fM) qc AW).get ap;have fL:k < b.ae.length:=(by rw [← HL.out];exact ap);obtain ⟨q',o',TY,Xw,rfl,Ht,hbs',cj,zQ,hc'⟩:=(Sl.ext (w':=wr) (A:=bg) (c:=bn) bK AW).get fL;obtain ⟨ax,rfl,adC,abS,KZ⟩:=jv hr;subst ax;obtain ⟨ax,rfl,hkey4,atA,asy⟩:=jv cj;subst ax;obtain ⟨q0,q1,q2,q3⟩:=tT 4 hc;obtain ⟨p0,p1,p2,p3⟩:=tT 4 hc';clear hc hc';go_wp2_with fail
                refine aF wr U' U' BP ?_
                repeat (first
                 | (apply aG
                    case hw=>rfl
                    simp only [Act.put,pz])
                 | (apply aH
                    case hw=>rfl
                    case h =>
                     intro wq hq;have dP:=(aB hq).1;have lJ:=(aB hq).2;go_simp
                     first
                      | exact ⟨hq,rfl⟩
                      | exact ⟨aQ hq _,rfl⟩
                      | ((refine Gj (v:=.bool (!(oP a.ae[k] b.ae[k]))) ?_ hq;unfold oP;repeat' split;all_goals simp [*]))
                      | (simp only [↓IntWalk.iteOmega];exact ⟨hq,rfl⟩)
                    simp only [Act.put,pz]))
                exact It
               ·have bz:k = a.ae.length:=O;exact I7
             ·have vG:((a.ae.length:Int) != (b.ae.length:Int)) = true:=(by simp;omega);have HS:=I (qN (eq:=oP) hl);clear hl;go_enter Tryz.func15,Tryz.ntmps15;go_wp2_with (first | (go_at_call 40;refine (pJ a.labels b.labels _ _ _ _ _ _ _ (jr.ext bu) (dA.ext bu)).mono ?_;rw [LH.out];rintro e w1 ⟨rfl,bm⟩;obtain ⟨db,eB⟩:=ay bm;have zO:w.heap.size < w1.heap.size:=(sq bm.size);have CO:w.heap.size+1 < w1.heap.size:=(sq bm.size)) | (go_at_call 42;refine (QF a.ai b.ai _ _ _ _ _ _ _ (Bv.ext bu) (iO.ext bu) VK.out VL.out).mono ?_;rw [QD.out];rintro e w5 ⟨rfl,bt⟩;obtain ⟨kO,j'⟩:=ay bt;have Sm:w.heap.size < w5.heap.size:=(sq bt.size);have WW:w.heap.size+1 < w5.heap.size:=(sq bt.size)))
              go_ret
              exact ⟨by rw [HF.out,HS.out];rfl,bu⟩
end Go.Proofs.YtjahcnjmjahbaaaGreat
