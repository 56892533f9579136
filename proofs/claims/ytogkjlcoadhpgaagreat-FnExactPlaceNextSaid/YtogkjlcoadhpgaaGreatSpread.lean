/- SpreadMark, of the program and of the reference. No condition. -/
import Derived.Test.YtogkjlcoadhpgaaGreatHostOk
import Derived.Test.YtogkjlcoadhpgaaGreatShare
namespace Go.Proofs.YtogkjlcoadhpgaaGreat
open Go.ChangeShapes Go.WideShapes Go.ChangeAt Go.RowKit
set_option linter.unusedVariables false
set_option linter.unusedSimpArgs false
set_option maxRecDepth 100000 in
set_option maxHeartbeats 4000000 in
theorem aex (x:aU) (p:nI) (cs ps:List Value) (F G:List Nat) (nm:ByteArray) (w:World) (h:rd w x cs F) (h':rd w p ps G) (hw:(x.wt:Int)≤1048576) (hw':(p.wt:Int)≤1048576) :
 Calls Tryz.prog 170 #[.agg cs.toArray,.string nm,.agg ps.toArray] w fun e w'=>e = .returned (.int .i64 (EF nm x))∧Below w.heap.size w w':=by
 have hwx:x.wt = kL Host.wt x.hosts+kL Placed.wt x.au:=rfl
 have hlen:(x.hosts.length:Int)≤1048576:=by have:=gJ Host.wt x.hosts;omega
 have vk:(x.au.length:Int)≤1048576:=by have:=gJ Placed.wt x.au;omega
 have hr:=h
 have hr':=h'
 obtain ⟨bG,bD,fQ,dn,bW,jg,hck,hF,bQ,dM,hnext,aV,aP,aW⟩:=aO hr
 obtain ⟨bY,bZ,iq,eU,eX,jV,bg,bn,dK,jU,hG,jW,dA,kQ,lg,lG,iO,bK⟩:=dL hr'
 subst hck jU
 clear hF hG hr hr'
 rcases yg (iM nm) x.hosts with hi | ⟨k,hk,hi⟩
 ·have HF:=Lib.hid (agG  hi)
  have HI:=Lib.hid hi
  clear hi
  cases hs:vU (F7 nm x.au) with
  | none =>
    have HU:=Lib.hid (AV hs)
    clear hs
    go_enter Tryz.func170,Tryz.ntmps170
    exact Zaan
  | some ab =>
    obtain ⟨a,b⟩:=ab
    have HU:=Lib.hid (AX hs)
    clear hs
    go_enter Tryz.func170,Tryz.ntmps170
    exact Zaan
 ·cases hs:vU (F7 nm x.au) with
  | none =>
    have HF:=Lib.hid (abX  hs)
    have HI:=Lib.hid hi
    clear hi
    have HU:=Lib.hid (AV hs)
    clear hs
    go_enter Tryz.func170,Tryz.ntmps170
    exact Zaan
  | some ab =>
    obtain ⟨a,b⟩:=ab
    have hat:=agH  hk hi hs
    obtain ⟨ha,hb⟩:=UD (A:=dn) (c:=bW) dM hs
    have HI:=Lib.hid hi
    clear hi
    have HU:=Lib.hid (AX hs)
    clear hs
    have hL:=NK nm x.au
    generalize (F7 nm x.au).length = L at hat HU hL
    have hLi:(L:Int)≤1048576:=by omega
    clear hL
    obtain ⟨bh,o,ck,Fk,rfl,o9,hbs,hr,hsub,hc⟩:=Sl.get (α:=Host) (A:=bG) (c:=bD) bQ hk
    obtain ⟨jM,jO,sN,jE,jF,sO,hck,su,zM,qY,Gt,Gw,xg,qA⟩:=iy hr
    subst hck
    have q0:w.cell? ⟨bh,o+k * 6,none⟩ = some (.string x.hosts[k].name):=by exact hc 0 _ rfl
    have q1:w.cell? ⟨bh,o+k * 6+1,none⟩ = some (.slice jM x.hosts[k].labels.length jO):=by rw [Nat.add_assoc];exact hc 1 _ rfl
    have q2:w.cell? ⟨bh,o+k * 6+2,none⟩ = some (.int .i64 x.hosts[k].cpu):=by rw [Nat.add_assoc];exact hc 2 _ rfl
    have q3:w.cell? ⟨bh,o+k * 6+3,none⟩ = some (.int .i64 x.hosts[k].mem):=by rw [Nat.add_assoc];exact hc 3 _ rfl
    have q4:w.cell? ⟨bh,o+k * 6+4,none⟩ = some (.int .i64 x.hosts[k].slots):=by rw [Nat.add_assoc];exact hc 4 _ rfl
    have q5:w.cell? ⟨bh,o+k * 6+5,none⟩ = some (.slice jE x.hosts[k].aT.length jF):=by rw [Nat.add_assoc];exact hc 5 _ rfl
    clear hc
    obtain ⟨S1,hS1⟩:∃S,CQ (L:Int) x.hosts[k].slots = S:=⟨_,rfl⟩
    have hr1:=zJ (L:Int) x.hosts[k].slots
    rw [hS1] at hat hr1
    have HF:=Lib.hid hat
    have HS1:=Lib.hid hS1
    clear hat hS1
    have hLI:I64 (L:Int):=by unfold I64;omega
    have hsh:IntKind.i64.wrap (100 - S1) = 100 - S1:=by rw [IntKind.wrap_i64];omega
    go_enter Tryz.func170,Tryz.ntmps170
    go_wp2_with fail
    refine (gK x _ _ nm _ (aJ h atS) hlen).mono ?_
    rw [HI.out]
    rintro e w2 ⟨rfl,hb2⟩
    obtain ⟨hc2,hf2⟩:=ay hb2
    have hz2:w.heap.size < w2.heap.size:=(sq hb2.size)
    have hy2:w.heap.size+1 < w2.heap.size:=(sq hb2.size)
    have hB2:Below w.heap.size w w2:=atS
    go_wp2_with fail
    refine (iQ x _ _ nm _ (aJ h atS) vk).mono ?_
    rw [HU.out]
    rintro e w3 ⟨rfl,hb3⟩
    obtain ⟨hc3,hf3⟩:=ay hb3
    have hz3:w.heap.size < w3.heap.size:=(sq hb3.size)
    have hy3:w.heap.size+1 < w3.heap.size:=(sq hb3.size)
    have hB3:Below w.heap.size w w3:=ah hB2 hb3
    replace q0:=((ay hB3).1 bh _ hbs).trans q0
    replace q1:=((ay hB3).1 bh _ hbs).trans q1
    replace q2:=((ay hB3).1 bh _ hbs).trans q2
    replace q3:=((ay hB3).1 bh _ hbs).trans q3
    replace q4:=((ay hB3).1 bh _ hbs).trans q4
    replace q5:=((ay hB3).1 bh _ hbs).trans q5
    have jd:bh < w3.heap.size:=by have:=hB3.size;omega
    go_wp2_with fail
    refine (VD _ _ _ aug aug).mono ?_
    exact Zaea
set_option maxRecDepth 100000 in
set_option maxHeartbeats 4000000 in
theorem aey (x:aU) (p:nI) (cs ps:List Value) (F G:List Nat) (nm:ByteArray) (w:World) (h:rd w x cs F) (h':rd w p ps G) (hw:(x.wt:Int)≤1048576) (hw':(p.wt:Int)≤1048576) :
 Calls Tryz.prog 157 #[.agg cs.toArray,.string nm,.agg ps.toArray] w fun e w'=>e = .returned (.int .i64 (EF nm x))∧Below w.heap.size w w':=by
 have hwx:x.wt = kL Host.wt x.hosts+kL Placed.wt x.au:=rfl
 have hlen:(x.hosts.length:Int)≤1048576:=by have:=gJ Host.wt x.hosts;omega
 have vk:(x.au.length:Int)≤1048576:=by have:=gJ Placed.wt x.au;omega
 have hr:=h
 have hr':=h'
 obtain ⟨bG,bD,fQ,dn,bW,jg,hck,hF,bQ,dM,hnext,aV,aP,aW⟩:=aO hr
 obtain ⟨bY,bZ,iq,eU,eX,jV,bg,bn,dK,jU,hG,jW,dA,kQ,lg,lG,iO,bK⟩:=dL hr'
 subst hck jU
 clear hF hG hr hr'
 rcases yg (iM nm) x.hosts with hi | ⟨k,hk,hi⟩
 ·have HF:=Lib.hid (agG  hi)
  have HI:=Lib.hid hi
  clear hi
  cases hs:vU (F7 nm x.au) with
  | none =>
    have HU:=Lib.hid (AV hs)
    clear hs
    go_enter Tryz.func157,Tryz.ntmps157
    exact Zaao
  | some ab =>
    obtain ⟨a,b⟩:=ab
    have HU:=Lib.hid (AX hs)
    clear hs
    go_enter Tryz.func157,Tryz.ntmps157
    exact Zaao
 ·cases hs:vU (F7 nm x.au) with
  | none =>
    have HF:=Lib.hid (abX  hs)
    have HI:=Lib.hid hi
    clear hi
    have HU:=Lib.hid (AV hs)
    clear hs
    go_enter Tryz.func157,Tryz.ntmps157
    exact Zaao
  | some ab =>
    obtain ⟨a,b⟩:=ab
    have hat:=agH  hk hi hs
    obtain ⟨ha,hb⟩:=UD (A:=dn) (c:=bW) dM hs
    have HI:=Lib.hid hi
    clear hi
    have HU:=Lib.hid (AX hs)
    clear hs
    have hL:=NK nm x.au
    generalize (F7 nm x.au).length = L at hat HU hL
    have hLi:(L:Int)≤1048576:=by omega
    clear hL
    obtain ⟨bh,o,ck,Fk,rfl,o9,hbs,hr,hsub,hc⟩:=Sl.get (α:=Host) (A:=bG) (c:=bD) bQ hk
    obtain ⟨jM,jO,sN,jE,jF,sO,hck,su,zM,qY,Gt,Gw,xg,qA⟩:=iy hr
    subst hck
    have q0:w.cell? ⟨bh,o+k * 6,none⟩ = some (.string x.hosts[k].name):=by exact hc 0 _ rfl
    have q1:w.cell? ⟨bh,o+k * 6+1,none⟩ = some (.slice jM x.hosts[k].labels.length jO):=by rw [Nat.add_assoc];exact hc 1 _ rfl
    have q2:w.cell? ⟨bh,o+k * 6+2,none⟩ = some (.int .i64 x.hosts[k].cpu):=by rw [Nat.add_assoc];exact hc 2 _ rfl
    have q3:w.cell? ⟨bh,o+k * 6+3,none⟩ = some (.int .i64 x.hosts[k].mem):=by rw [Nat.add_assoc];exact hc 3 _ rfl
    have q4:w.cell? ⟨bh,o+k * 6+4,none⟩ = some (.int .i64 x.hosts[k].slots):=by rw [Nat.add_assoc];exact hc 4 _ rfl
    have q5:w.cell? ⟨bh,o+k * 6+5,none⟩ = some (.slice jE x.hosts[k].aT.length jF):=by rw [Nat.add_assoc];exact hc 5 _ rfl
    clear hc
    obtain ⟨S1,hS1⟩:∃S,CQ (L:Int) x.hosts[k].slots = S:=⟨_,rfl⟩
    have hr1:=zJ (L:Int) x.hosts[k].slots
    rw [hS1] at hat hr1
    have HF:=Lib.hid hat
    have HS1:=Lib.hid hS1
    clear hat hS1
    have hLI:I64 (L:Int):=by unfold I64;omega
    have hsh:IntKind.i64.wrap (100 - S1) = 100 - S1:=by rw [IntKind.wrap_i64];omega
    go_enter Tryz.func157,Tryz.ntmps157
    go_wp2_with fail
    refine (gQ x _ _ nm _ (aJ h atS) hlen).mono ?_
    rw [HI.out]
    rintro e w2 ⟨rfl,hb2⟩
    obtain ⟨hc2,hf2⟩:=ay hb2
    have hz2:w.heap.size < w2.heap.size:=(sq hb2.size)
    have hy2:w.heap.size+1 < w2.heap.size:=(sq hb2.size)
    have hB2:Below w.heap.size w w2:=atS
    go_wp2_with fail
    refine (jm x _ _ nm _ (aJ h atS) vk).mono ?_
    rw [HU.out]
    rintro e w3 ⟨rfl,hb3⟩
    obtain ⟨hc3,hf3⟩:=ay hb3
    have hz3:w.heap.size < w3.heap.size:=(sq hb3.size)
    have hy3:w.heap.size+1 < w3.heap.size:=(sq hb3.size)
    have hB3:Below w.heap.size w w3:=ah hB2 hb3
    replace q0:=((ay hB3).1 bh _ hbs).trans q0
    replace q1:=((ay hB3).1 bh _ hbs).trans q1
    replace q2:=((ay hB3).1 bh _ hbs).trans q2
    replace q3:=((ay hB3).1 bh _ hbs).trans q3
    replace q4:=((ay hB3).1 bh _ hbs).trans q4
    replace q5:=((ay hB3).1 bh _ hbs).trans q5
    have jd:bh < w3.heap.size:=by have:=hB3.size;omega
    go_wp2_with fail
    refine (IB _ _ _ aug aug).mono ?_
    exact Zaea
end Go.Proofs.YtogkjlcoadhpgaaGreat
namespace Go.Proofs.YtogkjlcoadhpgaaGreat
open Go.ChangeShapes Go.WideShapes Go.ChangeAt Go.RowKit
set_option linter.unusedVariables false
set_option linter.unusedSimpArgs false
theorem ag2 (a b:Int) (w:World) (ha:I64 a) (hb:I64 b):Calls Tryz.prog 191 #[.int .i64 a,.int .i64 b] w fun e w'=>e = .returned (.int .i64 (qG a b))∧Below w.heap.size w w':=by
 cases h:GX a b with
 | none =>
   have HF:=Lib.hid (show qG a b = 9223372036854775807 by unfold qG;rw [h];rfl)
   have HA:=Lib.hid h
   go_enter Tryz.func191,Tryz.ntmps191
   exact Zae6
 | some s =>
   have HF:=Lib.hid (show qG a b = s by unfold qG;rw [h];rfl)
   have HA:=Lib.hid h
   go_enter Tryz.func191,Tryz.ntmps191
   exact Zae6
set_option maxRecDepth 100000 in
set_option maxHeartbeats 4000000 in
theorem ZA (x:aU) (p:nI) (cs ps:List Value) (F G:List Nat) (nm:ByteArray) (w:World) (h:rd w x cs F) (h':rd w p ps G) (hw:(x.wt:Int)≤1048576) (hw':(p.wt:Int)≤1048576) :
 Calls Tryz.prog 169 #[.agg cs.toArray,.string nm,.agg ps.toArray] w fun e w'=>e = .returned (.int .i64 (OT nm x p))∧Below w.heap.size w w':=by
 have hwx:x.wt = kL Host.wt x.hosts+kL Placed.wt x.au:=rfl
 have hlen:(x.hosts.length:Int)≤1048576:=by have:=gJ Host.wt x.hosts;omega
 have vk:(x.au.length:Int)≤1048576:=by have:=gJ Placed.wt x.au;omega
 have hr:=h
 have hr':=h'
 obtain ⟨bG,bD,fQ,dn,bW,jg,hck,hF,bQ,dM,hnext,aV,aP,aW⟩:=aO hr
 obtain ⟨bY,bZ,iq,eU,eX,jV,bg,bn,dK,jU,hG,jW,dA,kQ,lg,lG,iO,bK⟩:=dL hr'
 subst hck jU
 clear hF hG hr hr'
 rcases yg (iM nm) x.hosts with hi | ⟨k,hk,hi⟩
 ·have HF:=Lib.hid (amo (p:=p) hi)
  have HI:=Lib.hid hi
  clear hi
  cases hs:vU (F7 nm x.au) with
  | none =>
    have HU:=Lib.hid (AV hs)
    clear hs
    go_enter Tryz.func169,Tryz.ntmps169
    exact Zaan
  | some ab =>
    obtain ⟨a,b⟩:=ab
    have HU:=Lib.hid (AX hs)
    clear hs
    go_enter Tryz.func169,Tryz.ntmps169
    exact Zaan
 ·cases hs:vU (F7 nm x.au) with
  | none =>
    have HF:=Lib.hid (agF (p:=p) hs)
    have HI:=Lib.hid hi
    clear hi
    have HU:=Lib.hid (AV hs)
    clear hs
    go_enter Tryz.func169,Tryz.ntmps169
    exact Zaan
  | some ab =>
    obtain ⟨a,b⟩:=ab
    have hat:=amq (p:=p) hk hi hs
    obtain ⟨ha,hb⟩:=UD (A:=dn) (c:=bW) dM hs
    have HI:=Lib.hid hi
    clear hi
    have HU:=Lib.hid (AX hs)
    clear hs
    have hL:=NK nm x.au
    generalize (F7 nm x.au).length = L at hat HU hL
    have hLi:(L:Int)≤1048576:=by omega
    clear hL
    obtain ⟨bh,o,ck,Fk,rfl,o9,hbs,hr,hsub,hc⟩:=Sl.get (α:=Host) (A:=bG) (c:=bD) bQ hk
    obtain ⟨jM,jO,sN,jE,jF,sO,hck,su,zM,qY,Gt,Gw,xg,qA⟩:=iy hr
    subst hck
    have q0:w.cell? ⟨bh,o+k * 6,none⟩ = some (.string x.hosts[k].name):=by exact hc 0 _ rfl
    have q1:w.cell? ⟨bh,o+k * 6+1,none⟩ = some (.slice jM x.hosts[k].labels.length jO):=by rw [Nat.add_assoc];exact hc 1 _ rfl
    have q2:w.cell? ⟨bh,o+k * 6+2,none⟩ = some (.int .i64 x.hosts[k].cpu):=by rw [Nat.add_assoc];exact hc 2 _ rfl
    have q3:w.cell? ⟨bh,o+k * 6+3,none⟩ = some (.int .i64 x.hosts[k].mem):=by rw [Nat.add_assoc];exact hc 3 _ rfl
    have q4:w.cell? ⟨bh,o+k * 6+4,none⟩ = some (.int .i64 x.hosts[k].slots):=by rw [Nat.add_assoc];exact hc 4 _ rfl
    have q5:w.cell? ⟨bh,o+k * 6+5,none⟩ = some (.slice jE x.hosts[k].aT.length jF):=by rw [Nat.add_assoc];exact hc 5 _ rfl
    clear hc
    obtain ⟨S1,hS1⟩:∃S,CQ (qG a p.cpu) x.hosts[k].cpu = S:=⟨_,rfl⟩
    obtain ⟨S2,hS2⟩:∃S,CQ (qG b p.mem) x.hosts[k].mem = S:=⟨_,rfl⟩
    have hr1:=zJ (qG a p.cpu) x.hosts[k].cpu
    have hr2:=zJ (qG b p.mem) x.hosts[k].mem
    have hm1:=Ru ha kQ
    have hm2:=Ru hb lg
    rw [hS1,hS2] at hat
    rw [hS1] at hr1
    rw [hS2] at hr2
    have HF:=Lib.hid hat
    clear hat
    have hsh:IntKind.i64.wrap (S1+S2) = S1+S2:=by rw [IntKind.wrap_i64];omega
    have HW2:=Lib.hid (show IntKind.i64.wrap ((S1+S2).tdiv 2) = (S1+S2) / 2 by rw [Int.tdiv_eq_ediv_of_nonneg (by omega),IntKind.wrap_i64];omega)
    have HS1:=Lib.hid hS1
    have HS2:=Lib.hid hS2
    clear hS1 hS2
    go_enter Tryz.func169,Tryz.ntmps169
    go_wp2_with fail
    refine (gK x _ _ nm _ (aJ h atS) hlen).mono ?_
    rw [HI.out]
    rintro e w2 ⟨rfl,hb2⟩
    obtain ⟨hc2,hf2⟩:=ay hb2
    have hz2:w.heap.size < w2.heap.size:=(sq hb2.size)
    have hy2:w.heap.size+1 < w2.heap.size:=(sq hb2.size)
    have hB2:Below w.heap.size w w2:=atS
    go_wp2_with fail
    refine (iQ x _ _ nm _ (aJ h atS) vk).mono ?_
    rw [HU.out]
    rintro e w3 ⟨rfl,hb3⟩
    obtain ⟨hc3,hf3⟩:=ay hb3
    have hz3:w.heap.size < w3.heap.size:=(sq hb3.size)
    have hy3:w.heap.size+1 < w3.heap.size:=(sq hb3.size)
    have hB3:Below w.heap.size w w3:=ah hB2 hb3
    replace q0:=((ay hB3).1 bh _ hbs).trans q0
    replace q1:=((ay hB3).1 bh _ hbs).trans q1
    replace q2:=((ay hB3).1 bh _ hbs).trans q2
    replace q3:=((ay hB3).1 bh _ hbs).trans q3
    replace q4:=((ay hB3).1 bh _ hbs).trans q4
    replace q5:=((ay hB3).1 bh _ hbs).trans q5
    have jd:bh < w3.heap.size:=by have:=hB3.size;omega
    go_wp2_with fail
    refine aF w3 (by kernel_rfl) (by kernel_rfl) (aj _) ?_
    repeat (first
     | (apply aG
        case hw=>rfl
        simp only [Act.put,pz])
     | (apply aH
        case hw=>rfl
        case h =>
         intro wq hq
         have hcq:=(aB hq).1
         have lJ:=(aB hq).2
         go_simp
         first
          | exact ⟨hq,rfl⟩
          | exact ⟨aQ hq _,rfl⟩
          | (first | (refine (ag2 _ _ _ aug aug).mono ?_;rintro e wz ⟨rfl,nV⟩;exact ⟨rfl,aI hq nV⟩) | (refine (VD _ _ _ aug aug).mono ?_;(first | rw [HS1.out] | rw [HS2.out]);rintro e wz ⟨rfl,nV⟩;exact ⟨rfl,aI hq nV⟩))
          | (simp only [↓IntWalk.iteOmega];exact ⟨hq,rfl⟩)
        simp only [Act.put,pz]))
    refine aN ?_
    intro wn hn
    replace hn:=hn.out
    go_wp2
    go_ret
    exact ⟨by rw [HF.out];first | rfl | (simp;exact HW2.out),ah hB3 hn⟩
set_option maxRecDepth 100000 in
set_option maxHeartbeats 4000000 in
theorem Zz (x:aU) (p:nI) (cs ps:List Value) (F G:List Nat) (nm:ByteArray) (w:World) (h:rd w x cs F) (h':rd w p ps G) (hw:(x.wt:Int)≤1048576) (hw':(p.wt:Int)≤1048576) :
 Calls Tryz.prog 156 #[.agg cs.toArray,.string nm,.agg ps.toArray] w fun e w'=>e = .returned (.int .i64 (OT nm x p))∧Below w.heap.size w w':=by
 have hwx:x.wt = kL Host.wt x.hosts+kL Placed.wt x.au:=rfl
 have hlen:(x.hosts.length:Int)≤1048576:=by have:=gJ Host.wt x.hosts;omega
 have vk:(x.au.length:Int)≤1048576:=by have:=gJ Placed.wt x.au;omega
 have hr:=h
 have hr':=h'
 obtain ⟨bG,bD,fQ,dn,bW,jg,hck,hF,bQ,dM,hnext,aV,aP,aW⟩:=aO hr
 obtain ⟨bY,bZ,iq,eU,eX,jV,bg,bn,dK,jU,hG,jW,dA,kQ,lg,lG,iO,bK⟩:=dL hr'
 subst hck jU
 clear hF hG hr hr'
 rcases yg (iM nm) x.hosts with hi | ⟨k,hk,hi⟩
 ·have HF:=Lib.hid (amo (p:=p) hi)
  have HI:=Lib.hid hi
  clear hi
  cases hs:vU (F7 nm x.au) with
  | none =>
    have HU:=Lib.hid (AV hs)
    clear hs
    go_enter Tryz.func156,Tryz.ntmps156
    exact Zaao
  | some ab =>
    obtain ⟨a,b⟩:=ab
    have HU:=Lib.hid (AX hs)
    clear hs
    go_enter Tryz.func156,Tryz.ntmps156
    exact Zaao
 ·cases hs:vU (F7 nm x.au) with
  | none =>
    have HF:=Lib.hid (agF (p:=p) hs)
    have HI:=Lib.hid hi
    clear hi
    have HU:=Lib.hid (AV hs)
    clear hs
    go_enter Tryz.func156,Tryz.ntmps156
    exact Zaao
  | some ab =>
    obtain ⟨a,b⟩:=ab
    have hat:=amq (p:=p) hk hi hs
    obtain ⟨ha,hb⟩:=UD (A:=dn) (c:=bW) dM hs
    have HI:=Lib.hid hi
    clear hi
    have HU:=Lib.hid (AX hs)
    clear hs
    have hL:=NK nm x.au
    generalize (F7 nm x.au).length = L at hat HU hL
    have hLi:(L:Int)≤1048576:=by omega
    clear hL
    obtain ⟨bh,o,ck,Fk,rfl,o9,hbs,hr,hsub,hc⟩:=Sl.get (α:=Host) (A:=bG) (c:=bD) bQ hk
    obtain ⟨jM,jO,sN,jE,jF,sO,hck,su,zM,qY,Gt,Gw,xg,qA⟩:=iy hr
    subst hck
    have q0:w.cell? ⟨bh,o+k * 6,none⟩ = some (.string x.hosts[k].name):=by exact hc 0 _ rfl
    have q1:w.cell? ⟨bh,o+k * 6+1,none⟩ = some (.slice jM x.hosts[k].labels.length jO):=by rw [Nat.add_assoc];exact hc 1 _ rfl
    have q2:w.cell? ⟨bh,o+k * 6+2,none⟩ = some (.int .i64 x.hosts[k].cpu):=by rw [Nat.add_assoc];exact hc 2 _ rfl
    have q3:w.cell? ⟨bh,o+k * 6+3,none⟩ = some (.int .i64 x.hosts[k].mem):=by rw [Nat.add_assoc];exact hc 3 _ rfl
    have q4:w.cell? ⟨bh,o+k * 6+4,none⟩ = some (.int .i64 x.hosts[k].slots):=by rw [Nat.add_assoc];exact hc 4 _ rfl
    have q5:w.cell? ⟨bh,o+k * 6+5,none⟩ = some (.slice jE x.hosts[k].aT.length jF):=by rw [Nat.add_assoc];exact hc 5 _ rfl
    clear hc
    obtain ⟨S1,hS1⟩:∃S,CQ (qG a p.cpu) x.hosts[k].cpu = S:=⟨_,rfl⟩
    obtain ⟨S2,hS2⟩:∃S,CQ (qG b p.mem) x.hosts[k].mem = S:=⟨_,rfl⟩
    have hr1:=zJ (qG a p.cpu) x.hosts[k].cpu
    have hr2:=zJ (qG b p.mem) x.hosts[k].mem
    have hm1:=Ru ha kQ
    have hm2:=Ru hb lg
    rw [hS1,hS2] at hat
    rw [hS1] at hr1
    rw [hS2] at hr2
    have HF:=Lib.hid hat
    clear hat
    have hsh:IntKind.i64.wrap (S1+S2) = S1+S2:=by rw [IntKind.wrap_i64];omega
    have HW2:=Lib.hid (show IntKind.i64.wrap ((S1+S2).tdiv 2) = (S1+S2) / 2 by rw [Int.tdiv_eq_ediv_of_nonneg (by omega),IntKind.wrap_i64];omega)
    cases he1:GX a p.cpu with
    | none =>
      rw [show qG a p.cpu = 9223372036854775807 by unfold qG;rw [he1];rfl] at hS1 hm1
      exact Zae8
    | some s1 =>
      rw [show qG a p.cpu = s1 by unfold qG;rw [he1];rfl] at hS1 hm1
      exact Zae8
end Go.Proofs.YtogkjlcoadhpgaaGreat
