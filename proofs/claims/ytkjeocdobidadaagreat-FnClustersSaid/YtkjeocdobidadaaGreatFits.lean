/- fits. What a reason against a pod on a host is. No condition. -/
import Derived.Test.YtkjeocdobidadaaGreatLabAt
import Derived.Test.YtkjeocdobidadaaGreatUsedP
import Derived.Test.YtkjeocdobidadaaGreatDeed
namespace Go.Proofs.YtkjeocdobidadaaGreat
open Go.ChangeShapes Go.WideShapes Go.ChangeAt Go.RowKit
set_option linter.unusedVariables false
set_option linter.unusedSimpArgs false
set_option maxHeartbeats 4000000
set_option maxRecDepth 100000
def Jo (used more most:Int):Bool:=match GX used more with | some s=>decide (s≤most) | none=>false
def Vm (h:Host) (p:nI) (a b n:Int):Int :=
 if Hw h.labels p.needs = false then 1 else if 0 < (BD p.tolerances 1 h.aT:Int) then 2
 else if Jo a p.cpu h.cpu = false then 3 else if Jo b p.mem h.mem = false then 4 else if h.slots≤n then 5 else 0
def oH (nm:ByteArray) (x:aU) (p:nI):Int :=
 if pK (iM nm) x.hosts < 0 then 6 else
 match vU (F7 nm x.au),x.hosts[(pK (iM nm) x.hosts).toNat]? with
 | some (a,b),some h=>Vm h p a b (F7 nm x.au).length
 | _,_=>6
theorem afH {nm:ByteArray} {x:aU} {p:nI} (h:pK (iM nm) x.hosts = -1):oH nm x p = 6:=by unfold oH;rw [h];rfl
theorem abG {nm:ByteArray} {x:aU} {p:nI} (h:vU (F7 nm x.au) = none):oH nm x p = 6:=by unfold oH;rw [h];simp
theorem afI {nm:ByteArray} {x:aU} {p:nI} {k:Nat} {a b:Int} (hk:k < x.hosts.length) (h:pK (iM nm) x.hosts = k) (hs:vU (F7 nm x.au) = some (a,b)):oH nm x p = Vm x.hosts[k] p a b (F7 nm x.au).length:=by
 unfold oH;rw [h,if_neg O',hs,Int.toNat_natCast,List.getElem?_eq_getElem hk]
theorem afJ {h:Host} (hw:(h.wt:Int)≤1048576):((h.labels.length:Int)≤1048576)∧((kL iU.wt h.aT:Int)≤1048576):=by
 have hwx:h.wt = h.name.size+kL Label.wt h.labels+kL iU.wt h.aT:=rfl;have:=gJ Label.wt h.labels;omega
theorem Tz (x:aU) (p:nI) (cs ps:List Value) (F G:List Nat) (nm:ByteArray) (w:World) (h:rd w x cs F) (h':rd w p ps G) (hw:(x.wt:Int)≤1048576) (hw':(p.wt:Int)≤1048576) :
 Calls Tryz.prog 130 #[.agg cs.toArray,.string nm,.agg ps.toArray] w fun e w'=>e = .returned (.int .i64 (oH nm x p))∧Below w.heap.size w w':=by
 have hwx:x.wt = kL Host.wt x.hosts+kL Placed.wt x.au:=rfl;have hwp:p.wt = p.name.size+kL Label.wt p.labels+kL Need.wt p.needs+kL bH.wt p.tolerances:=rfl;have hlen:(x.hosts.length:Int)≤1048576:=by have:=gJ Host.wt x.hosts;omega
 have vk:(x.au.length:Int)≤1048576:=by have:=gJ Placed.wt x.au;omega
 obtain ⟨htl,hts⟩:=FQ (xs:=p.tolerances) O';obtain ⟨hnl,hns⟩:=Aa (xs:=p.needs) O';have Ux:=I' hts;have HNS:=I' hns;clear hts hns;have hr:=h;have hr':=h';obtain ⟨bG,bD,fQ,dn,bW,jg,hck,hF,bQ,dM,hnext,aV,aP,aW⟩:=aO hr;obtain ⟨bY,bZ,iq,eU,eX,jV,bg,bn,dK,jU,hG,jW,dA,kQ,lg,lG,iO,bK⟩:=dL hr';subst hck jU;clear hF hG hr hr';rcases yg (iM nm) x.hosts with hi | ⟨k,hk,hi⟩
 ·have HF:=I' (afH (p:=p) hi);have HI:=I' hi;clear hi;cases hs:vU (F7 nm x.au) with
  | none =>have HU:=I' (AV hs);clear hs;go_enter Tryz.func130,Tryz.ntmps130;exact Zaar
  | some ab =>obtain ⟨a,b⟩:=ab;have HU:=I' (AX hs);clear hs;go_enter Tryz.func130,Tryz.ntmps130;exact Zaar
 ·cases hs:vU (F7 nm x.au) with
  | none =>have HF:=I' (abG (p:=p) hs);have HI:=I' hi;clear hi;have HU:=I' (AV hs);clear hs;go_enter Tryz.func130,Tryz.ntmps130;exact Zaar
  | some ab =>
    obtain ⟨a,b⟩:=ab;have hat:=afI (p:=p) hk hi hs;obtain ⟨ha,hb⟩:=UD (A:=dn) (c:=bW) dM hs;have HI:=I' hi;clear hi;have HU:=I' (AX hs);clear hs;have hL:=NK nm x.au;generalize (F7 nm x.au).length = L at hat HU hL;have hLi:(L:Int)≤1048576:=O';clear hL;obtain ⟨hhl,hht⟩:=afJ (h:=x.hosts[k]) (by have:=rM (f:=Host.wt) hk;omega);obtain ⟨hxl,hxs⟩:=BH hht;have hul:=UN p.tolerances 1 x.hosts[k].aT;obtain ⟨bh,o,ck,Fk,rfl,o9,hbs,hr,hsub,hc⟩:=Sl.get (α:=Host) (A:=bG) (c:=bD) bQ hk;obtain ⟨jM,jO,sN,jE,jF,sO,hck,su,zM,qY,Gt,Gw,xg,qA⟩:=iy hr;subst hck;have q0:w.cell? ⟨bh,o+k * 6,none⟩ = some (.string x.hosts[k].name):=(by exact hc 0 _ rfl);have q1:w.cell? ⟨bh,o+k * 6+1,none⟩ = some (.slice jM x.hosts[k].labels.length jO):=(by rw [Nat.add_assoc];exact hc 1 _ rfl);have q2:w.cell? ⟨bh,o+k * 6+2,none⟩ = some (.int .i64 x.hosts[k].cpu):=(by rw [Nat.add_assoc];exact hc 2 _ rfl);have q3:w.cell? ⟨bh,o+k * 6+3,none⟩ = some (.int .i64 x.hosts[k].mem):=(by rw [Nat.add_assoc];exact hc 3 _ rfl);have q4:w.cell? ⟨bh,o+k * 6+4,none⟩ = some (.int .i64 x.hosts[k].slots):=(by rw [Nat.add_assoc];exact hc 4 _ rfl);have q5:w.cell? ⟨bh,o+k * 6+5,none⟩ = some (.slice jE x.hosts[k].aT.length jF):=(by rw [Nat.add_assoc];exact hc 5 _ rfl);clear hc
    have aa1:=I' (show ∀wq,Below w.heap.size w wq→Calls Tryz.prog 180 #[.slice eU p.needs.length eX,.slice jM x.hosts[k].labels.length jO] wq fun e w'=>e = .returned (.bool (Hw x.hosts[k].labels p.needs))∧Below wq.heap.size wq w' from
     fun wq hq=>alb p.needs x.hosts[k].labels _ _ _ _ _ _ _ _ wq (iO.ext hq) (qY.ext hq) rfl rfl hnl hhl HNS.out)
    have hUT:∀wq,Below w.heap.size w wq→Calls Tryz.prog 181 #[.slice bg p.tolerances.length bn,.slice jE x.hosts[k].aT.length jF,.int .i64 1] wq fun e w'=>e = .returned (.int .i64 (BD p.tolerances 1 x.hosts[k].aT))∧Below wq.heap.size wq w' :=
     fun wq hq=>UQ p.tolerances x.hosts[k].aT 1 _ _ _ _ _ _ _ _ _ (bK.ext hq) (qA.ext hq) rfl rfl htl hxl Ux.out hxs
    have HUN:=I' hUT;unfold Vm at hat;clear hUT hxs;generalize BD p.tolerances 1 x.hosts[k].aT = z at HUN hat hul;have hzl:(z:Int)≤1048576:=O';have HAT:=I' hat;clear hat;have HLEN:=I' (show (x.hosts.length:Int)≤1048576 from hlen);clear hht hhl hxl hlen;go_enter Tryz.func130,Tryz.ntmps130;go_wp2_with fail
    refine (gQ x _ _ nm _ (aJ h atS) HLEN.out).mono ?_;rw [HI.out];rintro e w2 ⟨rfl,hb2⟩;obtain ⟨hc2,hf2⟩:=ay hb2;have hz2:w.heap.size < w2.heap.size:=(sq hb2.size);have hy2:w.heap.size+1 < w2.heap.size:=(sq hb2.size);have hB2:Below w.heap.size w w2:=atS;go_wp2_with fail
    refine (jm x _ _ nm _ (aJ h atS) vk).mono ?_;rw [HU.out];rintro e w3 ⟨rfl,hb3⟩;obtain ⟨hc3,hf3⟩:=ay hb3;have hz3:w.heap.size < w3.heap.size:=(sq hb3.size);have hy3:w.heap.size+1 < w3.heap.size:=(sq hb3.size);have hB3:Below w.heap.size w w3:=ah hB2 hb3;replace q0:=((ay hB3).1 bh _ hbs).trans q0;replace q1:=((ay hB3).1 bh _ hbs).trans q1;replace q2:=((ay hB3).1 bh _ hbs).trans q2;replace q3:=((ay hB3).1 bh _ hbs).trans q3;replace q4:=((ay hB3).1 bh _ hbs).trans q4;replace q5:=((ay hB3).1 bh _ hbs).trans q5;have jd:bh < w3.heap.size:=(by have:=hB3.size;omega);cases hS:Hw x.hosts[k].labels p.needs
    ·have HF:=I' (show oH nm x p = 1 by rw [HAT.out,if_pos hS]);have HS:=I' hS;clear hS;go_wp2_with fail
     refine (aa1.out _ atS).mono ?_;rw [HS.out];rintro e w4 ⟨rfl,hb4⟩;obtain ⟨hc4,hf4⟩:=ay hb4;have Wy:w.heap.size < w4.heap.size:=(sq hb4.size);have hy4:w.heap.size+1 < w4.heap.size:=(sq hb4.size);have hx4:w3.heap.size < w4.heap.size:=(sq hb4.size);exact Zacb
    ·by_cases hu:(0:Int) < (z:Int)
     ·have HF:=I' (show oH nm x p = 2 by rw [HAT.out,if_neg (by simp [hS]),if_pos hu]);have HS:=I' hS;clear hS;go_wp2_with fail
      refine (aa1.out _ atS).mono ?_;rw [HS.out];rintro e w4 ⟨rfl,hb4⟩;obtain ⟨hc4,hf4⟩:=ay hb4;have Wy:w.heap.size < w4.heap.size:=(sq hb4.size);have hy4:w.heap.size+1 < w4.heap.size:=(sq hb4.size);have hx4:w3.heap.size < w4.heap.size:=(sq hb4.size);go_wp2_with fail
      refine (HUN.out _ atS).mono ?_;rintro e w5 ⟨rfl,hb5⟩;obtain ⟨hc5,hf5⟩:=ay hb5;have Es:w.heap.size < w5.heap.size:=(sq hb5.size);have IV:w.heap.size+1 < w5.heap.size:=(sq hb5.size);have hx5:w3.heap.size < w5.heap.size:=(sq hb5.size);exact Zacb
     ·cases he1:GX a p.cpu with
      | none =>have hf1:Jo a p.cpu x.hosts[k].cpu = false:=(by unfold Jo;rw [he1]);exact Zabr
      | some s1 =>
        by_cases hle1:s1≤x.hosts[k].cpu
        ·have hf1:Jo a p.cpu x.hosts[k].cpu = true:=(by unfold Jo;rw [he1];simp [hle1]);cases he2:GX b p.mem with
         | none =>have hf2:Jo b p.mem x.hosts[k].mem = false:=(by unfold Jo;rw [he2]);exact Zafs
         | some s2 =>
           by_cases hle2:s2≤x.hosts[k].mem
           ·have hf2:Jo b p.mem x.hosts[k].mem = true:=(by unfold Jo;rw [he2];simp [hle2]);by_cases hsl:x.hosts[k].slots≤(L:Int)
            ·have HF:=I' (show oH nm x p = 5 by rw [HAT.out,if_neg (by simp [hS]),if_neg hu,if_neg (by simp [hf1]),if_neg (by simp [hf2]),if_pos hsl]);exact Zaat
            ·have HF:=I' (show oH nm x p = 0 by rw [HAT.out,if_neg (by simp [hS]),if_neg hu,if_neg (by simp [hf1]),if_neg (by simp [hf2]),if_neg hsl]);exact Zaat
           ·have hf2:Jo b p.mem x.hosts[k].mem = false:=(by unfold Jo;rw [he2];simp [hle2]);exact Zafs
        ·have hf1:Jo a p.cpu x.hosts[k].cpu = false:=(by unfold Jo;rw [he1];simp [hle1]);exact Zabr
theorem Oa (x:aU) (p:nI) (cs ps:List Value) (F G:List Nat) (nm:ByteArray) (w:World) (h:rd w x cs F) (h':rd w p ps G) (hw:(x.wt:Int)≤1048576) (hw':(p.wt:Int)≤1048576) :
 Calls Tryz.prog 78 #[.agg cs.toArray,.string nm,.agg ps.toArray] w fun e w'=>e = .returned (.bool (oH nm x p == 0))∧Below w.heap.size w w':=by
 have hr:=h;have hr':=h';obtain ⟨bG,bD,fQ,dn,bW,jg,hck,hF,bQ,dM,hnext,aV,aP,aW⟩:=aO hr;obtain ⟨bY,bZ,iq,eU,eX,jV,bg,bn,dK,jU,hG,jW,dA,kQ,lg,lG,iO,bK⟩:=dL hr';subst hck jU;clear hF hG hr hr';go_enter Tryz.func78,Tryz.ntmps78;go_wp2_with fail
 refine (Tz x p _ _ _ _ nm _ (aJ h atS) (aJ h' atS) hw hw').mono ?_;rintro e w2 ⟨rfl,hb2⟩;go_wp2;go_ret
 exact ⟨rfl,atS⟩
def al8 (x:aU) (p:nI) (h:Host):Bool:=oH h.name x p == 0
def Ar (x:aU) (p:nI) (hs:List Host):List ByteArray:=(hs.filter (al8 x p)).map Host.name
theorem YM {x:aU} {p:nI} {hs:List Host} {k:Nat} (h:k < hs.length) (hp:al8 x p hs[k] = true):Ar x p (hs.take (k+1)) = Ar x p (hs.take k)++[hs[k].name]:=by
 unfold Ar;rw [List.take_succ_eq_append_getElem h,List.filter_append,List.map_append];simp [hp]
theorem abE {x:aU} {p:nI} {hs:List Host} {k:Nat} (h:k < hs.length) (hp:al8 x p hs[k] = false):Ar x p (hs.take (k+1)) = Ar x p (hs.take k):=by
 unfold Ar;rw [List.take_succ_eq_append_getElem h,List.filter_append,List.map_append];simp [hp]
theorem LY (x:aU) (p:nI) (hs:List Host):(Ar x p hs).length≤hs.length:=by unfold Ar;rw [List.length_map];exact List.length_filter_le _ _
theorem afG (x:aU) (p:nI) (hs:List Host) (k:Nat):(Ar x p (hs.take k)).length≤k:=Nat.le_trans (LY _ _ _) avI
theorem aY.strw {w:World} {B:Nat} {xs:List ByteArray} {ds:List Value} {s:ByteArray} (h:aY w B xs ds []) (hs:(s.size:Int)≤9223372036854775807):aY w B (xs++[s]) (ds++[.string s]) [] :=
 ⟨h.rd.append (.single (rdStr w s hs)),List.nodup_nil,(fun b hb=>by cases hb),(fun b hb=>by cases hb)⟩
theorem Zv (x:aU) (p:nI) (cs ps:List Value) (F G:List Nat) (w:World) (h:rd w x cs F) (h':rd w p ps G) (hw:(x.wt:Int)≤1048576) (hw':(p.wt:Int)≤1048576) :
 Calls Tryz.prog 28 #[.agg cs.toArray,.agg ps.toArray] w fun e w'=>∃A c G,e = .returned (.slice A (Ar x p x.hosts).length c)∧Own w' w.heap.size (Ar x p x.hosts) [.slice A (Ar x p x.hosts).length c] G∧Below w.heap.size w w':=by
 have hwx:x.wt = kL Host.wt x.hosts+kL Placed.wt x.au:=rfl;have hlen:(x.hosts.length:Int)≤1048576:=by have:=gJ Host.wt x.hosts;omega
 have HW:=I' hw;have Uc:=I' hw';clear hw hw' hwx;have hr:=h;have hr':=h';obtain ⟨bG,bD,fQ,dn,bW,jg,hck,hF,bQ,dM,hnext,aV,aP,aW⟩:=aO hr;obtain ⟨bY,bZ,iq,eU,eX,jV,bg,bn,dK,jU,hG,jW,dA,kQ,lg,lG,iO,bK⟩:=dL hr';subst hck jU;clear hF hG hr hr';go_enter Tryz.func28,Tryz.ntmps28;go_wp2_with fail
 obtain ⟨w0,hw0⟩:∃w0,(w.alloc (.cells #[.slice bG x.hosts.length bD,.slice dn x.au.length bW,.int .i64 x.next,.int .i64 x.weights.pack,.int .i64 x.weights.spread,.int .i64 x.weights.soft] 29)).alloc (.cells #[.string p.name,.slice bY p.labels.length bZ,.int .i64 p.cpu,.int .i64 p.mem,.int .i64 p.rank,.slice eU p.needs.length eX,.slice bg p.tolerances.length bn] 39) = w0:=⟨_,rfl⟩;try rw [hw0]
 have c0:w0.cell? ⟨w.heap.size,0,none⟩ = some (.slice bG x.hosts.length bD):=by rw [← hw0,World.cell?_of_block (heap_alloc_old _ _ S'),cell_of_row _ _ _ _ _ _ (heap_alloc_new w _)];rfl
 have c1:w0.cell? ⟨w.heap.size,1,none⟩ = some (.slice dn x.au.length bW):=by rw [← hw0,World.cell?_of_block (heap_alloc_old _ _ S'),cell_of_row _ _ _ _ _ _ (heap_alloc_new w _)];rfl
 have c2:w0.cell? ⟨w.heap.size,2,none⟩ = some (.int .i64 x.next):=by rw [← hw0,World.cell?_of_block (heap_alloc_old _ _ S'),cell_of_row _ _ _ _ _ _ (heap_alloc_new w _)];rfl
 have c3:w0.cell? ⟨w.heap.size,3,none⟩ = some (.int .i64 x.weights.pack):=by rw [← hw0,World.cell?_of_block (heap_alloc_old _ _ S'),cell_of_row _ _ _ _ _ _ (heap_alloc_new w _)];rfl
 have c4:w0.cell? ⟨w.heap.size,4,none⟩ = some (.int .i64 x.weights.spread):=by rw [← hw0,World.cell?_of_block (heap_alloc_old _ _ S'),cell_of_row _ _ _ _ _ _ (heap_alloc_new w _)];rfl
 have c5:w0.cell? ⟨w.heap.size,5,none⟩ = some (.int .i64 x.weights.soft):=by rw [← hw0,World.cell?_of_block (heap_alloc_old _ _ S'),cell_of_row _ _ _ _ _ _ (heap_alloc_new w _)];rfl
 have d0:w0.cell? ⟨w.heap.size+1,0,none⟩ = some (.string p.name):=by rw [← hw0];simp
 have d1:w0.cell? ⟨w.heap.size+1,1,none⟩ = some (.slice bY p.labels.length bZ):=by rw [← hw0];simp
 have d2:w0.cell? ⟨w.heap.size+1,2,none⟩ = some (.int .i64 p.cpu):=by rw [← hw0];simp
 have d3:w0.cell? ⟨w.heap.size+1,3,none⟩ = some (.int .i64 p.mem):=by rw [← hw0];simp
 have d4:w0.cell? ⟨w.heap.size+1,4,none⟩ = some (.int .i64 p.rank):=by rw [← hw0];simp
 have d5:w0.cell? ⟨w.heap.size+1,5,none⟩ = some (.slice eU p.needs.length eX):=by rw [← hw0];simp
 have d6:w0.cell? ⟨w.heap.size+1,6,none⟩ = some (.slice bg p.tolerances.length bn):=by rw [← hw0];simp
 have hB0:Below w.heap.size w w0:=by rw [← hw0];exact ak (ak (aj _) _) _
 have hs0:w0.heap.size = w.heap.size+1+1:=by rw [← hw0];simp
 have hz0:w.heap.size < w0.heap.size:=by omega
 have hz1:w.heap.size+1 < w0.heap.size:=by omega
 have HS0:=I' hs0;clear hw0 hs0;go_loopw [5,6] (fun v i wr=>∃(k:Nat) (ds:List Value),k≤x.hosts.length∧i = .int .i64 k∧wr.ownsRow w0.heap.size 9 1 v (Ar x p (x.hosts.take k)).length ds∧aY w w0.heap.size (Ar x p (x.hosts.take k)) ds []∧Below w0.heap.size w0 wr) (fun _ i _=>x.hosts.length - (intOf i).toNat)
 case atStart =>refine ⟨0,[],Nat.zero_le _,rfl,?_,aY.nil _ _,ak (aj _) _⟩;rw [← HS0.out];have:=World.ownsRow_made (base:=w0.heap.size) (e:=9) (size:=1) w0 #[] 0 S' at6 rfl;simpa [Ar] using this
 case round =>
  obtain ⟨k,ds,hk,rfl,hown,hcs,hbl⟩:=hrel;by_cases hlt:k < x.hosts.length
  ·obtain ⟨b,o,ck,Fk,rfl,o9,hbs,hr,hsub,hc⟩:=Sl.get (α:=Host) (A:=bG) (c:=bD) bQ hlt;obtain ⟨jM,jO,sN,jE,jF,sO,hck,su,zM,qY,Gt,Gw,xg,qA⟩:=iy hr;subst hck;have q0:w.cell? ⟨b,o+k * 6,none⟩ = some (.string x.hosts[k].name):=(by exact hc 0 _ rfl);have q1:w.cell? ⟨b,o+k * 6+1,none⟩ = some (.slice jM x.hosts[k].labels.length jO):=(by rw [Nat.add_assoc];exact hc 1 _ rfl);have q2:w.cell? ⟨b,o+k * 6+2,none⟩ = some (.int .i64 x.hosts[k].cpu):=(by rw [Nat.add_assoc];exact hc 2 _ rfl);have q3:w.cell? ⟨b,o+k * 6+3,none⟩ = some (.int .i64 x.hosts[k].mem):=(by rw [Nat.add_assoc];exact hc 3 _ rfl);have q4:w.cell? ⟨b,o+k * 6+4,none⟩ = some (.int .i64 x.hosts[k].slots):=(by rw [Nat.add_assoc];exact hc 4 _ rfl);have q5:w.cell? ⟨b,o+k * 6+5,none⟩ = some (.slice jE x.hosts[k].aT.length jF):=(by rw [Nat.add_assoc];exact hc 5 _ rfl);clear hc;have hBr:Below w.heap.size w wr:=ah hB0 (hbl.mono O');replace q0:=((ay hBr).1 b _ hbs).trans q0;replace q1:=((ay hBr).1 b _ hbs).trans q1;replace q2:=((ay hBr).1 b _ hbs).trans q2;replace q3:=((ay hBr).1 b _ hbs).trans q3;replace q4:=((ay hBr).1 b _ hbs).trans q4;replace q5:=((ay hBr).1 b _ hbs).trans q5;have WU:b < wr.heap.size:=(by have:=hBr.size;omega);have hK:=(ay hbl).1;replace c0:=(hK _ _ hz0).trans c0;replace c1:=(hK _ _ hz0).trans c1;replace c2:=(hK _ _ hz0).trans c2;replace c3:=(hK _ _ hz0).trans c3;replace c4:=(hK _ _ hz0).trans c4;replace c5:=(hK _ _ hz0).trans c5;replace d0:=(hK _ _ hz1).trans d0;replace d1:=(hK _ _ hz1).trans d1;replace d2:=(hK _ _ hz1).trans d2;replace d3:=(hK _ _ hz1).trans d3;replace d4:=(hK _ _ hz1).trans d4;replace d5:=(hK _ _ hz1).trans d5;replace d6:=(hK _ _ hz1).trans d6;clear hK;have tX:w.heap.size < wr.heap.size:=(by have:=hbl.size;omega);have hz1r:w.heap.size+1 < wr.heap.size:=(by have:=hbl.size;omega);have hol:(Ar x p (x.hosts.take k)).length≤k:=afG x p x.hosts k;cases hp:al8 x p x.hosts[k] with
   | true =>
     have HP:=I' hp;have HPR:=I' (show (oH x.hosts[k].name x p == 0) = true from hp);clear hp;go_wp2_with fail
     first
      | (refine (Oa x p _ _ _ _ x.hosts[k].name _ (aJ h auS) (aJ h' auS) HW.out Uc.out).mono ?_
         rw [HPR.out]
         rintro e wn ⟨rfl,hn⟩)
      | (refine aF _ U' U' (aj _) ?_
         repeat (first
          | (apply aG
             case hw=>rfl
             simp only [Act.put,pz])
          | (apply aH
             case hw=>rfl
             case h =>exact Zacg
             simp only [Act.put,pz]))
         refine aN ?_;intro wn hn
         replace hn:=hn.out)
     obtain ⟨hcn,hfn⟩:=ay hn
     first
      | have hzn:wr.heap.size < wn.heap.size:=(sq hn.size)
      | have hzn:wr.heap.size≤wn.heap.size:=(sq hn.size)
     have hbn:Below w0.heap.size w0 wn:=(by first | exact ah hbl hn | exact ah (ak hbl _) hn);first | have zq:=mG hown hn | have zq:=mG (hown.alloc _) hn
     go_wp2_with (
      at_builtin
      go_must (refine lC qw J' _ _ J' _ _ _ _ _ zq J' [.string x.hosts[k].name] aue J' aub O' O' awN ?_)
      intro v2 w2 hown2 hg2 hz2)
     have hb2:Below w0.heap.size w0 w2:=lS (B:=w0.heap.size) zq hg2 hbn (by have:=hbn.size;omega);exact ⟨⟨k+1,_,O',N',(by rw [YM hlt HP.out,List.length_append];exact hown2),(by rw [YM hlt HP.out];exact hcs.strw (rV zM)),hb2⟩,by simp [intOf];omega⟩
   | false =>
     have HP:=I' hp;have HPR:=I' (show (oH x.hosts[k].name x p == 0) = false from hp);clear hp;go_wp2_with fail
     first
      | (refine (Oa x p _ _ _ _ x.hosts[k].name _ (aJ h auS) (aJ h' auS) HW.out Uc.out).mono ?_
         rw [HPR.out]
         rintro e wn ⟨rfl,hn⟩)
      | (refine aF _ U' U' (aj _) ?_
         repeat (first
          | (apply aG
             case hw=>rfl
             simp only [Act.put,pz])
          | (apply aH
             case hw=>rfl
             case h =>exact Zacg
             simp only [Act.put,pz]))
         refine aN ?_;intro wn hn
         replace hn:=hn.out)
     obtain ⟨hcn,hfn⟩:=ay hn
     first
      | have hzn:wr.heap.size < wn.heap.size:=(sq hn.size)
      | have hzn:wr.heap.size≤wn.heap.size:=(sq hn.size)
     have hbn:Below w0.heap.size w0 wn:=(by first | exact ah hbl hn | exact ah (ak hbl _) hn);first | have zq:=mG hown hn | have zq:=mG (hown.alloc _) hn
     go_wp2;exact ⟨⟨k+1,_,O',N',(by rw [abE hlt HP.out];exact zq),(by rw [abE hlt HP.out];exact hcs),hbn⟩,by simp [intOf];omega⟩
  ·have hkl:k = x.hosts.length:=O';subst hkl;rw [List.take_length] at hown hcs;have hBr:Below w.heap.size w wr:=ah hB0 hbl;obtain ⟨Al,cl,Gl,rfl,hsl⟩:=Own.oJ hown ((aY.keep hcs (fun b hb=>by cases hb) hBr.size)) (fun _ _ hb=>by cases hb);have hol:=LY x p x.hosts;clear hown hcs;have hK:=(ay hbl).1;replace c0:=(hK _ _ hz0).trans c0;replace c1:=(hK _ _ hz0).trans c1;replace c2:=(hK _ _ hz0).trans c2;replace c3:=(hK _ _ hz0).trans c3;replace c4:=(hK _ _ hz0).trans c4;replace c5:=(hK _ _ hz0).trans c5;replace d0:=(hK _ _ hz1).trans d0;replace d1:=(hK _ _ hz1).trans d1;replace d2:=(hK _ _ hz1).trans d2;replace d3:=(hK _ _ hz1).trans d3;replace d4:=(hK _ _ hz1).trans d4;replace d5:=(hK _ _ hz1).trans d5;replace d6:=(hK _ _ hz1).trans d6;clear hK;go_wp2;go_ret
   exact ⟨Al,cl,Gl,rfl,hsl.mono O',hBr⟩
end Go.Proofs.YtkjeocdobidadaaGreat
