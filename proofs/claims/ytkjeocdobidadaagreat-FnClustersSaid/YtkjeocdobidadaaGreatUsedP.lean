/- What a host's pods use, in plain Lean. No condition. -/
import Derived.Test.YtkjeocdobidadaaGreatLabAt
import Derived.Test.YtkjeocdobidadaaGreatUsed
import Derived.Test.YtkjeocdobidadaaGreatDeed
import Derived.Test.YtkjeocdobidadaaGreatKeys
import Derived.Test.YtkjeocdobidadaaGreatAt
import Derived.Test.YtkjeocdobidadaaGreatOrdP
namespace Go.Proofs.YtkjeocdobidadaaGreat
open Go.ChangeShapes Go.WideShapes Go.ChangeAt Go.RowKit
set_option linter.unusedVariables false
set_option linter.unusedSimpArgs false
set_option maxHeartbeats 4000000
set_option maxRecDepth 100000
theorem ahT:∀(xs:List Int) (s t:Int),(∀x∈xs,I64 x)→I64 s→GZ xs s = some t→I64 t
 | [],s,t,_,hs,h=>by simp only [GZ,Option.some.injEq] at h;subst h;exact hs
 | x :: xs,s,t,hx,hs,h=>by
   simp only [GZ] at h;cases e:GX s x with
   | none=>rw [e] at h;cases h
   | some m =>rw [e] at h;exact ahT xs m t (fun y hy=>hx y (List.mem_cons_of_mem _ hy)) (abW e hs (hx x (List.mem_cons_self ..))) h
theorem aqt {xs:List nI} {a b:Int} (hx:∀p∈xs,I64 p.cpu∧I64 p.mem) (h:vU xs = some (a,b)):I64 a∧I64 b:=by
 unfold vU at h;cases e1:GZ (xs.map nI.cpu) 0 with
 | none=>rw [e1] at h;cases h
 | some m =>
   cases e2:GZ (xs.map nI.mem) 0 with
   | none=>rw [e1,e2] at h;cases h
   | some n =>
     rw [e1,e2] at h;simp only [Option.some.injEq,Prod.mk.injEq] at h;obtain ⟨rfl,rfl⟩:=h;have z:I64 0:=⟨O',O'⟩;refine ⟨ahT _ 0 _ (fun y hy=>?_) z e1,ahT _ 0 _ (fun y hy=>?_) z e2⟩
     ·obtain ⟨p,hp,rfl⟩:=List.mem_map.1 hy;exact (hx p hp).1
     ·obtain ⟨p,hp,rfl⟩:=List.mem_map.1 hy;exact (hx p hp).2
theorem atL {nm:ByteArray} {xs:List Placed} {p:nI} (h:p∈F7 nm xs):∃q∈xs,p = q.aS:=by
 unfold F7 at h;obtain ⟨q,hq,rfl⟩:=List.mem_map.1 h;exact ⟨q,(List.mem_filter.1 hq).1,rfl⟩
theorem Sl.ao8 {w:World} {xs:List Placed} {A:Option Addr} {c:Nat} {F:List Nat} (h:Sl w xs A c F):∀p∈xs,I64 p.aS.cpu∧I64 p.aS.mem:=by
 intro p hp;obtain ⟨k,hk,rfl⟩:=List.getElem_of_mem hp;obtain ⟨b,o,ck,Fk,_,_,_,hr,_⟩:=h.get hk;obtain ⟨gV,gW,lF,iR,iT,mV,dD,dF,iH,hck,hF,nY,iE,rF,rG,oZ,je,dN,hon,hseq⟩:=kE hr;exact ⟨rF,rG⟩
theorem UD {w:World} {xs:List Placed} {A:Option Addr} {c:Nat} {F:List Nat} {nm:ByteArray} {a b:Int} (h:Sl w xs A c F) (hs:vU (F7 nm xs) = some (a,b)):I64 a∧I64 b :=
 aqt (fun p hp=>by obtain ⟨q,hq,rfl⟩:=atL hp;exact h.ao8 q hq) hs
theorem AX {nm:ByteArray} {xs:List Placed} {a b:Int} (h:vU (F7 nm xs) = some (a,b)):KF nm xs = .tuple #[.int .i64 a,.int .i64 b,.int .i64 (F7 nm xs).length,.bool true]:=by unfold KF;rw [h]
theorem AV {nm:ByteArray} {xs:List Placed} (h:vU (F7 nm xs) = none):KF nm xs = .tuple #[.int .i64 0,.int .i64 0,.int .i64 0,.bool false]:=by unfold KF;rw [h]
def YD (nm:ByteArray) (xs:List Placed):List ByteArray:=(xs.filter (onP nm)).map fun p=>p.aS.name
theorem aeX {nm:ByteArray} {xs:List Placed} {k:Nat} (h:k < xs.length) (hp:onP nm xs[k] = true):YD nm (xs.take (k+1)) = YD nm (xs.take k)++[xs[k].aS.name]:=by
 unfold YD;rw [List.take_succ_eq_append_getElem h,List.filter_append,List.map_append];simp [hp]
theorem Xi {nm:ByteArray} {xs:List Placed} {k:Nat} (h:k < xs.length) (hp:onP nm xs[k] = false):YD nm (xs.take (k+1)) = YD nm (xs.take k):=by
 unfold YD;rw [List.take_succ_eq_append_getElem h,List.filter_append,List.map_append];simp [hp]
theorem abf (nm:ByteArray) (xs:List Placed):(YD nm xs).length≤xs.length:=by unfold YD;rw [List.length_map];exact List.length_filter_le _ _
theorem abg (nm:ByteArray) (xs:List Placed) (k:Nat):(YD nm (xs.take k)).length≤k:=Nat.le_trans (abf _ _) avI
theorem aY.str {w:World} {B:Nat} {xs:List ByteArray} {ds:List Value} {s:ByteArray} (h:aY w B xs ds []) (hs:(s.size:Int)≤9223372036854775807):aY w B (xs++[s]) (ds++[.string s]) [] :=
 ⟨h.rd.append (.single (rdStr w s hs)),List.nodup_nil,(fun b hb=>by cases hb),(fun b hb=>by cases hb)⟩
theorem abh (x:aU) (cs:List Value) (F:List Nat) (nm:ByteArray) (w:World) (h:rd w x cs F) (hl:(x.au.length:Int)≤1048576) :
 Calls Tryz.prog 13 #[.agg cs.toArray,.string nm] w fun e w'=>∃A c G,e = .returned (.slice A (YD nm x.au).length c)∧Own w' w.heap.size (YD nm x.au) [.slice A (YD nm x.au).length c] G∧Below w.heap.size w w':=by
 obtain ⟨bG,bD,fQ,dn,bW,jg,hck,qp,bQ,dM,hnext,aV,aP,aW⟩:=aO h;subst hck;clear qp;go_enter Tryz.func13,Tryz.ntmps13;go_wp2_with fail
 go_loopw [5,12] (fun v i wr=>∃(k:Nat) (ds:List Value),k≤x.au.length∧i = .int .i64 k∧wr.ownsRow (w.heap.size+1) 9 1 v (YD nm (x.au.take k)).length ds∧aY w (w.heap.size+1) (YD nm (x.au.take k)) ds []∧wr.cell? ⟨w.heap.size,1,none⟩ = some (.slice dn x.au.length bW)∧Below w.heap.size w wr) (fun _ i _=>x.au.length - (intOf i).toNat)
 case atStart =>
  refine ⟨0,[],Nat.zero_le _,rfl,?_,aY.nil _ _,?_,ak (ak (aj _) _) _⟩
  ·have:=World.ownsRow_made (base:=w.heap.size+1) (e:=9) (size:=1) (w.alloc (.cells #[.slice bG x.hosts.length bD,.slice dn x.au.length bW,.int .i64 x.next,.int .i64 x.weights.pack,.int .i64 x.weights.spread,.int .i64 x.weights.soft] 29)) #[] 0 S' at6 rfl;simpa [YD] using this
  ·exact Zacu
 case round =>
  obtain ⟨k,ds,hk,rfl,hown,hcs,hqc,hbl⟩:=hrel;have hqz:w.heap.size < wr.heap.size:=World.block_lt_of_cell? wr _ hqc;by_cases hlt:k < x.au.length
  ·have hol:=abg nm x.au k;have hnq:some w.heap.size≠u5.ownBlock:=(by intro e;have:=hown.lt _ e.symm;omega);obtain ⟨b,o,ck,Fk,rfl,o9,hbs,hr,hsub,hc⟩:=Sl.get (α:=Placed) (A:=dn) (c:=bW) dM hlt;obtain ⟨c1,c2,F1,F2,rfl,rfl,QS,_,_,_,_,rfl,rfl,⟨rfl,rfl,hon⟩,⟨rfl,rfl,hseq⟩⟩:=hr;have abj:=QS;obtain ⟨gV,gW,lF,iR,iT,mV,dD,dF,iH,hck,su,nY,iE,rF,rG,oZ,je,dN⟩:=dL QS;subst hck;clear su QS iE je dN;have q0:w.cell? ⟨b,o+k * 9,none⟩ = some (.string x.au[k].aS.name):=(by exact hc 0 _ rfl);have q1:w.cell? ⟨b,o+k * 9+1,none⟩ = some (.slice gV x.au[k].aS.labels.length gW):=(by rw [Nat.add_assoc];exact hc 1 _ rfl);have q2:w.cell? ⟨b,o+k * 9+2,none⟩ = some (.int .i64 x.au[k].aS.cpu):=(by rw [Nat.add_assoc];exact hc 2 _ rfl);have q3:w.cell? ⟨b,o+k * 9+3,none⟩ = some (.int .i64 x.au[k].aS.mem):=(by rw [Nat.add_assoc];exact hc 3 _ rfl);have q4:w.cell? ⟨b,o+k * 9+4,none⟩ = some (.int .i64 x.au[k].aS.rank):=(by rw [Nat.add_assoc];exact hc 4 _ rfl);have q5:w.cell? ⟨b,o+k * 9+5,none⟩ = some (.slice iR x.au[k].aS.needs.length iT):=(by rw [Nat.add_assoc];exact hc 5 _ rfl);have q6:w.cell? ⟨b,o+k * 9+6,none⟩ = some (.slice dD x.au[k].aS.tolerances.length dF):=(by rw [Nat.add_assoc];exact hc 6 _ rfl);have q7:w.cell? ⟨b,o+k * 9+7,none⟩ = some (.string x.au[k].on):=(by rw [Nat.add_assoc];exact hc 7 _ rfl);have q8:w.cell? ⟨b,o+k * 9+8,none⟩ = some (.int .i64 x.au[k].seq):=(by rw [Nat.add_assoc];exact hc 8 _ rfl);clear hc;replace q0:=((ay hbl).1 b _ hbs).trans q0;replace q1:=((ay hbl).1 b _ hbs).trans q1;replace q2:=((ay hbl).1 b _ hbs).trans q2;replace q3:=((ay hbl).1 b _ hbs).trans q3;replace q4:=((ay hbl).1 b _ hbs).trans q4;replace q5:=((ay hbl).1 b _ hbs).trans q5;replace q6:=((ay hbl).1 b _ hbs).trans q6;replace q7:=((ay hbl).1 b _ hbs).trans q7;replace q8:=((ay hbl).1 b _ hbs).trans q8;cases hs1:(nm.toList == []) <;> cases hs2:(x.au[k].on.toList == nm.toList)
   all_goals
    have hp:onP nm x.au[k] = _:=avV;simp only [Bool.not_true,Bool.not_false,Bool.true_and,Bool.false_and] at hp;have HP:=I' hp;clear hp
    go_wp2_with (
     at_builtin
     go_must (refine lC qw J' _ _ J' _ _ _ _ _ (hown.alloc _) J' [.string x.au[k].aS.name] aue J' aub O' O' avJ ?_)
     intro v2 w2 hown2 hg2 hz2;go_must (have hb2:Below w.heap.size w w2:=lS (B:=w.heap.size) ((vP hown (Nat.le_succ _)).alloc _) hg2 (ak hbl _) avK)
     go_must (have alJ:=hg2.cell ((World.cell?_of_block (heap_alloc_old wr _ O')).trans hqc) hnq))
    first
     | exact ⟨⟨k+1,_,O',N',(by rw [Xi hlt HP.out];exact hown),avW,hqc,hbl⟩,by simp [intOf];omega⟩
     | exact ⟨⟨k+1,_,O',N',(by rw [aeX hlt HP.out,List.length_append];exact hown2),(by rw [aeX hlt HP.out];exact hcs.str (rV nY)),alJ,hb2⟩,by simp [intOf];omega⟩
     | exact ⟨⟨k+1,_,O',N',(by rw [Xi hlt HP.out];exact hown.alloc _),avW,(World.cell?_of_block (heap_alloc_old wr _ O')).trans hqc,ak hbl _⟩,by simp [intOf];omega⟩
  ·have hkl:k = x.au.length:=O';subst hkl;rw [List.take_length] at hown hcs;obtain ⟨Al,cl,Gl,rfl,hsl⟩:=Own.oJ hown ((aY.keep hcs (fun b hb=>by cases hb) hbl.size)) (fun _ _ hb=>by cases hb);have hol:=abf nm x.au;clear hown hcs;go_wp2;go_ret
   exact ⟨Al,cl,Gl,rfl,hsl.mono O',hbl⟩
def qG (a b:Int):Int:=(GX a b).getD 9223372036854775807
theorem Ru {a b:Int} (ha:I64 a) (hb:I64 b):I64 (qG a b):=by
 unfold qG;cases h:GX a b with
 | none=>exact ⟨by show _≤(9223372036854775807:Int);omega,by show (9223372036854775807:Int)≤_;omega⟩
 | some t=>exact abW h ha hb
def OT (nm:ByteArray) (x:aU) (p:nI):Int :=
 if pK (iM nm) x.hosts < 0 then 0 else
 match vU (F7 nm x.au),x.hosts[(pK (iM nm) x.hosts).toNat]? with
 | some (a,b),some h=>(CQ (qG a p.cpu) h.cpu+CQ (qG b p.mem) h.mem) / 2
 | _,_=>0
def EF (nm:ByteArray) (x:aU):Int :=
 if pK (iM nm) x.hosts < 0 then 0 else
 match vU (F7 nm x.au),x.hosts[(pK (iM nm) x.hosts).toNat]? with
 | some (a,b),some h=>100 - CQ (F7 nm x.au).length h.slots
 | _,_=>0
theorem amo {nm:ByteArray} {x:aU} {p:nI} (h:pK (iM nm) x.hosts = -1):OT nm x p = 0:=by unfold OT;rw [h];rfl
theorem agF {nm:ByteArray} {x:aU} {p:nI} (h:vU (F7 nm x.au) = none):OT nm x p = 0:=by unfold OT;rw [h];simp
theorem amq {nm:ByteArray} {x:aU} {p:nI} {k:Nat} {a b:Int} (hk:k < x.hosts.length) (h:pK (iM nm) x.hosts = k) (hs:vU (F7 nm x.au) = some (a,b)):OT nm x p = (CQ (qG a p.cpu) x.hosts[k].cpu+CQ (qG b p.mem) x.hosts[k].mem) / 2:=by
 unfold OT;rw [h,if_neg O',hs,Int.toNat_natCast,List.getElem?_eq_getElem hk]
theorem agG {nm:ByteArray} {x:aU} (h:pK (iM nm) x.hosts = -1):EF nm x = 0:=by unfold EF;rw [h];rfl
theorem abX {nm:ByteArray} {x:aU} (h:vU (F7 nm x.au) = none):EF nm x = 0:=by unfold EF;rw [h];simp
theorem agH {nm:ByteArray} {x:aU} {k:Nat} {a b:Int} (hk:k < x.hosts.length) (h:pK (iM nm) x.hosts = k) (hs:vU (F7 nm x.au) = some (a,b)):EF nm x = 100 - CQ (F7 nm x.au).length x.hosts[k].slots:=by
 unfold EF;rw [h,if_neg O',hs,Int.toNat_natCast,List.getElem?_eq_getElem hk]
theorem adO (nm:ByteArray) (x:aU) (p:nI):0≤OT nm x p∧OT nm x p≤100:=by
 unfold OT;split
 ·omega
 ·split
  ·rename_i a b h _ _;have h1:=zJ (qG a p.cpu) h.cpu;have h2:=zJ (qG b p.mem) h.mem;omega
  ·omega
theorem ZO (nm:ByteArray) (x:aU):0≤EF nm x∧EF nm x≤100:=by
 unfold EF;split
 ·omega
 ·split
  ·rename_i a b h _ _;have h1:=zJ (F7 nm x.au).length h.slots;omega
  ·omega
theorem Zz (x:aU) (p:nI) (cs ps:List Value) (F G:List Nat) (nm:ByteArray) (w:World) (h:rd w x cs F) (h':rd w p ps G) (hw:(x.wt:Int)≤1048576) (hw':(p.wt:Int)≤1048576) :
 Calls Tryz.prog 143 #[.agg cs.toArray,.string nm,.agg ps.toArray] w fun e w'=>e = .returned (.int .i64 (OT nm x p))∧Below w.heap.size w w':=by
 have hwx:x.wt = kL Host.wt x.hosts+kL Placed.wt x.au:=rfl;have hlen:(x.hosts.length:Int)≤1048576:=by have:=gJ Host.wt x.hosts;omega
 have vk:(x.au.length:Int)≤1048576:=by have:=gJ Placed.wt x.au;omega
 have hr:=h;have hr':=h';obtain ⟨bG,bD,fQ,dn,bW,jg,hck,hF,bQ,dM,hnext,aV,aP,aW⟩:=aO hr;obtain ⟨bY,bZ,iq,eU,eX,jV,bg,bn,dK,jU,hG,jW,dA,kQ,lg,lG,iO,bK⟩:=dL hr';subst hck jU;clear hF hG hr hr';rcases yg (iM nm) x.hosts with hi | ⟨k,hk,hi⟩
 ·have HF:=I' (amo (p:=p) hi);have HI:=I' hi;clear hi;cases hs:vU (F7 nm x.au) with
  | none =>have HU:=I' (AV hs);clear hs;go_enter Tryz.func143,Tryz.ntmps143;exact Zaar
  | some ab =>obtain ⟨a,b⟩:=ab;have HU:=I' (AX hs);clear hs;go_enter Tryz.func143,Tryz.ntmps143;exact Zaar
 ·cases hs:vU (F7 nm x.au) with
  | none =>have HF:=I' (agF (p:=p) hs);have HI:=I' hi;clear hi;have HU:=I' (AV hs);clear hs;go_enter Tryz.func143,Tryz.ntmps143;exact Zaar
  | some ab =>
    obtain ⟨a,b⟩:=ab;have hat:=amq (p:=p) hk hi hs;obtain ⟨ha,hb⟩:=UD (A:=dn) (c:=bW) dM hs;have HI:=I' hi;clear hi;have HU:=I' (AX hs);clear hs;have hL:=NK nm x.au;generalize (F7 nm x.au).length = L at hat HU hL;have hLi:(L:Int)≤1048576:=O';clear hL;obtain ⟨bh,o,ck,Fk,rfl,o9,hbs,hr,hsub,hc⟩:=Sl.get (α:=Host) (A:=bG) (c:=bD) bQ hk;obtain ⟨jM,jO,sN,jE,jF,sO,hck,su,zM,qY,Gt,Gw,xg,qA⟩:=iy hr;subst hck;have q0:w.cell? ⟨bh,o+k * 6,none⟩ = some (.string x.hosts[k].name):=(by exact hc 0 _ rfl);have q1:w.cell? ⟨bh,o+k * 6+1,none⟩ = some (.slice jM x.hosts[k].labels.length jO):=(by rw [Nat.add_assoc];exact hc 1 _ rfl);have q2:w.cell? ⟨bh,o+k * 6+2,none⟩ = some (.int .i64 x.hosts[k].cpu):=(by rw [Nat.add_assoc];exact hc 2 _ rfl);have q3:w.cell? ⟨bh,o+k * 6+3,none⟩ = some (.int .i64 x.hosts[k].mem):=(by rw [Nat.add_assoc];exact hc 3 _ rfl);have q4:w.cell? ⟨bh,o+k * 6+4,none⟩ = some (.int .i64 x.hosts[k].slots):=(by rw [Nat.add_assoc];exact hc 4 _ rfl);have q5:w.cell? ⟨bh,o+k * 6+5,none⟩ = some (.slice jE x.hosts[k].aT.length jF):=(by rw [Nat.add_assoc];exact hc 5 _ rfl);clear hc;obtain ⟨S1,hS1⟩:∃S,CQ (qG a p.cpu) x.hosts[k].cpu = S:=⟨_,rfl⟩;obtain ⟨S2,hS2⟩:∃S,CQ (qG b p.mem) x.hosts[k].mem = S:=⟨_,rfl⟩;have hr1:=zJ (qG a p.cpu) x.hosts[k].cpu;have hr2:=zJ (qG b p.mem) x.hosts[k].mem;have hm1:=Ru ha kQ;have hm2:=Ru hb lg;rw [hS1,hS2] at hat;rw [hS1] at hr1;rw [hS2] at hr2;have HF:=I' hat;clear hat;have hsh:IntKind.i64.wrap (S1+S2) = S1+S2:=(by rw [IntKind.wrap_i64];omega);have HW2:=I' (show IntKind.i64.wrap ((S1+S2).tdiv 2) = (S1+S2) / 2 by rw [Int.tdiv_eq_ediv_of_nonneg O',IntKind.wrap_i64];omega);cases he1:GX a p.cpu with
    | none =>rw [show qG a p.cpu = 9223372036854775807 by unfold qG;rw [he1];rfl] at hS1 hm1;exact Zafe
    | some s1 =>rw [show qG a p.cpu = s1 by unfold qG;rw [he1];rfl] at hS1 hm1;exact Zafe
theorem aey (x:aU) (p:nI) (cs ps:List Value) (F G:List Nat) (nm:ByteArray) (w:World) (h:rd w x cs F) (h':rd w p ps G) (hw:(x.wt:Int)≤1048576) (hw':(p.wt:Int)≤1048576) :
 Calls Tryz.prog 144 #[.agg cs.toArray,.string nm,.agg ps.toArray] w fun e w'=>e = .returned (.int .i64 (EF nm x))∧Below w.heap.size w w':=by
 have hwx:x.wt = kL Host.wt x.hosts+kL Placed.wt x.au:=rfl;have hlen:(x.hosts.length:Int)≤1048576:=by have:=gJ Host.wt x.hosts;omega
 have vk:(x.au.length:Int)≤1048576:=by have:=gJ Placed.wt x.au;omega
 have hr:=h;have hr':=h';obtain ⟨bG,bD,fQ,dn,bW,jg,hck,hF,bQ,dM,hnext,aV,aP,aW⟩:=aO hr;obtain ⟨bY,bZ,iq,eU,eX,jV,bg,bn,dK,jU,hG,jW,dA,kQ,lg,lG,iO,bK⟩:=dL hr';subst hck jU;clear hF hG hr hr';rcases yg (iM nm) x.hosts with hi | ⟨k,hk,hi⟩
 ·have HF:=I' (agG  hi);have HI:=I' hi;clear hi;cases hs:vU (F7 nm x.au) with
  | none =>have HU:=I' (AV hs);clear hs;go_enter Tryz.func144,Tryz.ntmps144;exact Zaar
  | some ab =>obtain ⟨a,b⟩:=ab;have HU:=I' (AX hs);clear hs;go_enter Tryz.func144,Tryz.ntmps144;exact Zaar
 ·cases hs:vU (F7 nm x.au) with
  | none =>have HF:=I' (abX  hs);have HI:=I' hi;clear hi;have HU:=I' (AV hs);clear hs;go_enter Tryz.func144,Tryz.ntmps144;exact Zaar
  | some ab =>
    obtain ⟨a,b⟩:=ab;have hat:=agH  hk hi hs;obtain ⟨ha,hb⟩:=UD (A:=dn) (c:=bW) dM hs;have HI:=I' hi;clear hi;have HU:=I' (AX hs);clear hs;have hL:=NK nm x.au;generalize (F7 nm x.au).length = L at hat HU hL;have hLi:(L:Int)≤1048576:=O';clear hL;obtain ⟨bh,o,ck,Fk,rfl,o9,hbs,hr,hsub,hc⟩:=Sl.get (α:=Host) (A:=bG) (c:=bD) bQ hk;obtain ⟨jM,jO,sN,jE,jF,sO,hck,su,zM,qY,Gt,Gw,xg,qA⟩:=iy hr;subst hck;have q0:w.cell? ⟨bh,o+k * 6,none⟩ = some (.string x.hosts[k].name):=(by exact hc 0 _ rfl);have q1:w.cell? ⟨bh,o+k * 6+1,none⟩ = some (.slice jM x.hosts[k].labels.length jO):=(by rw [Nat.add_assoc];exact hc 1 _ rfl);have q2:w.cell? ⟨bh,o+k * 6+2,none⟩ = some (.int .i64 x.hosts[k].cpu):=(by rw [Nat.add_assoc];exact hc 2 _ rfl);have q3:w.cell? ⟨bh,o+k * 6+3,none⟩ = some (.int .i64 x.hosts[k].mem):=(by rw [Nat.add_assoc];exact hc 3 _ rfl);have q4:w.cell? ⟨bh,o+k * 6+4,none⟩ = some (.int .i64 x.hosts[k].slots):=(by rw [Nat.add_assoc];exact hc 4 _ rfl);have q5:w.cell? ⟨bh,o+k * 6+5,none⟩ = some (.slice jE x.hosts[k].aT.length jF):=(by rw [Nat.add_assoc];exact hc 5 _ rfl);clear hc;obtain ⟨S1,hS1⟩:∃S,CQ (L:Int) x.hosts[k].slots = S:=⟨_,rfl⟩;have hr1:=zJ (L:Int) x.hosts[k].slots;rw [hS1] at hat hr1;have HF:=I' hat;have HS1:=I' hS1;clear hat hS1;have hLI:I64 (L:Int):=(by unfold I64;omega);have hsh:IntKind.i64.wrap (100 - S1) = 100 - S1:=(by rw [IntKind.wrap_i64];omega);go_enter Tryz.func144,Tryz.ntmps144;go_wp2_with fail
    refine (gQ x _ _ nm _ (aJ h atS) hlen).mono ?_;rw [HI.out];rintro e w2 ⟨rfl,hb2⟩;obtain ⟨hc2,hf2⟩:=ay hb2;have hz2:w.heap.size < w2.heap.size:=(sq hb2.size);have hy2:w.heap.size+1 < w2.heap.size:=(sq hb2.size);have hB2:Below w.heap.size w w2:=atS;go_wp2_with fail
    refine (jm x _ _ nm _ (aJ h atS) vk).mono ?_;rw [HU.out];rintro e w3 ⟨rfl,hb3⟩;obtain ⟨hc3,hf3⟩:=ay hb3;have hz3:w.heap.size < w3.heap.size:=(sq hb3.size);have hy3:w.heap.size+1 < w3.heap.size:=(sq hb3.size);have hB3:Below w.heap.size w w3:=ah hB2 hb3;replace q0:=((ay hB3).1 bh _ hbs).trans q0;replace q1:=((ay hB3).1 bh _ hbs).trans q1;replace q2:=((ay hB3).1 bh _ hbs).trans q2;replace q3:=((ay hB3).1 bh _ hbs).trans q3;replace q4:=((ay hB3).1 bh _ hbs).trans q4;replace q5:=((ay hB3).1 bh _ hbs).trans q5;have jd:bh < w3.heap.size:=(by have:=hB3.size;omega);go_wp2_with fail
    refine (IB _ _ _ aug aug).mono ?_;rw [HS1.out];rintro e wn ⟨rfl,hn⟩;go_wp2;go_ret
    exact ⟨by rw [HF.out];first | rfl | simp,ah hB3 hn⟩
end Go.Proofs.YtkjeocdobidadaaGreat
