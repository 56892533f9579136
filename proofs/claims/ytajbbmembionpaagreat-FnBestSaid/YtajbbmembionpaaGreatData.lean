/- The program's data, and how each reads. No condition. -/
import Derived.Test.YtajbbmembionpaaGreatKit
namespace Go.Proofs.YtajbbmembionpaaGreat
open Go.ChangeShapes Go.WideShapes Go.ChangeAt Go.RowKit
set_option linter.unusedVariables false
set_option linter.unusedSimpArgs false
theorem vO {w:World} {x:ao} {cs:List Value} {F:List Nat} (h:rd w x cs F):cs = [.string x.key,.string x.value]∧F = []∧x.key.size≤maxLen∧x.value.size≤maxLen:=by
 obtain ⟨_,_,_,_,rfl,rfl,⟨rfl,rfl,b8⟩,⟨rfl,rfl,kP⟩⟩:=h;exact ⟨rfl,S',b8,kP⟩
theorem ID (w:World) (x:ao) (b8:x.key.size≤maxLen) (kP:x.value.size≤maxLen):rd w x [.string x.key,.string x.value] []:=⟨_,_,_,_,rfl,rfl,⟨rfl,rfl,b8⟩,⟨rfl,rfl,kP⟩⟩
structure aD where
 key:ByteArray
 op:Int
 values:List ByteArray
instance:ba aD:=ba.nt fun x=>(x.key,x.op,x.values)
theorem og {w:World} {x:aD} {cs:List Value} {F:List Nat} (h:rd w x cs F):∃(jy:Option Addr) (ji:Nat) (Bo:List Nat),cs = [.string x.key,.int .i64 x.op,.slice jy x.values.length ji]∧F = Bo∧x.key.size≤maxLen∧bp x.op∧Sl w x.values jy ji Bo:=by
 obtain ⟨_,_,_,_,rfl,rfl,⟨rfl,rfl,b8⟩,_,_,_,_,rfl,rfl,⟨rfl,rfl,eN⟩,kV⟩:=h;obtain ⟨jy,ji,rfl,kV⟩:=jB kV;exact ⟨jy,ji,_,rfl,S',b8,eN,kV⟩
structure iU where
 key:ByteArray
 value:ByteArray
 effect:Int
instance:ba iU:=ba.nt fun x=>(x.key,x.value,x.effect)
theorem oK {w:World} {x:iU} {cs:List Value} {F:List Nat} (h:rd w x cs F):cs = [.string x.key,.string x.value,.int .i64 x.effect]∧F = []∧x.key.size≤maxLen∧x.value.size≤maxLen∧bp x.effect:=by
 obtain ⟨_,_,_,_,rfl,rfl,⟨rfl,rfl,b8⟩,_,_,_,_,rfl,rfl,⟨rfl,rfl,kP⟩,⟨rfl,rfl,lD⟩⟩:=h;exact ⟨rfl,S',b8,kP,lD⟩
theorem Q8 (w:World) (x:iU) (b8:x.key.size≤maxLen) (kP:x.value.size≤maxLen) (lD:bp x.effect):rd w x [.string x.key,.string x.value,.int .i64 x.effect] []:=⟨_,_,_,_,rfl,rfl,⟨rfl,rfl,b8⟩,_,_,_,_,rfl,rfl,⟨rfl,rfl,kP⟩,⟨rfl,rfl,lD⟩⟩
structure bH where
 key:ByteArray
 equal:Bool
 value:ByteArray
 effect:Int
instance:ba bH:=ba.nt fun x=>(x.key,x.equal,x.value,x.effect)
theorem jv {w:World} {x:bH} {cs:List Value} {F:List Nat} (h:rd w x cs F):cs = [.string x.key,.bool x.equal,.string x.value,.int .i64 x.effect]∧F = []∧x.key.size≤maxLen∧x.value.size≤maxLen∧bp x.effect:=by
 obtain ⟨_,_,_,_,rfl,rfl,⟨rfl,rfl,b8⟩,_,_,_,_,rfl,rfl,⟨rfl,rfl⟩,_,_,_,_,rfl,rfl,⟨rfl,rfl,kP⟩,⟨rfl,rfl,lD⟩⟩:=h;exact ⟨rfl,S',b8,kP,lD⟩
theorem Ov (w:World) (x:bH) (b8:x.key.size≤maxLen) (kP:x.value.size≤maxLen) (lD:bp x.effect):rd w x [.string x.key,.bool x.equal,.string x.value,.int .i64 x.effect] []:=⟨_,_,_,_,rfl,rfl,⟨rfl,rfl,b8⟩,_,_,_,_,rfl,rfl,⟨rfl,rfl⟩,_,_,_,_,rfl,rfl,⟨rfl,rfl,kP⟩,⟨rfl,rfl,lD⟩⟩
structure nI where
 name:ByteArray
 labels:List ao
 av:Int
 mem:Int
 ar:Int
 ag:List aD
 ae:List bH
instance:ba nI:=ba.nt fun x=>(x.name,x.labels,x.av,x.mem,x.ar,x.ag,x.ae)
theorem dL {w:World} {x:nI} {cs:List Value} {F:List Nat} (h:rd w x cs F):∃(gu:Option Addr) (gy:Nat) (jw:List Nat) (oh:Option Addr) (nT:Nat) (wG:List Nat) (fA:Option Addr) (fB:Nat) (jY:List Nat),cs = [.string x.name,.slice gu x.labels.length gy,.int .i64 x.av,.int .i64 x.mem,.int .i64 x.ar,.slice oh x.ag.length nT,.slice fA x.ae.length fB]∧F = jw++(wG++(jY))∧x.name.size≤maxLen∧Sl w x.labels gu gy jw∧bp x.av∧bp x.mem∧bp x.ar∧Sl w x.ag oh nT wG∧Sl w x.ae fA fB jY:=by
 obtain ⟨_,_,_,_,rfl,rfl,⟨rfl,rfl,hname⟩,_,_,_,_,rfl,rfl,dO,_,_,_,_,rfl,rfl,⟨rfl,rfl,vg⟩,_,_,_,_,rfl,rfl,⟨rfl,rfl,cF⟩,_,_,_,_,rfl,rfl,⟨rfl,rfl,BJ⟩,_,_,_,_,rfl,rfl,mX,eG⟩:=h;obtain ⟨gu,gy,rfl,dO⟩:=jB dO;obtain ⟨oh,nT,rfl,mX⟩:=jB mX;obtain ⟨fA,fB,rfl,eG⟩:=jB eG;exact ⟨gu,gy,_,oh,nT,_,fA,fB,_,rfl,S',hname,dO,vg,cF,BJ,mX,eG⟩
structure aM where
 name:ByteArray
 labels:List ao
 av:Int
 mem:Int
 slots:Int
 aT:List iU
instance:ba aM:=ba.nt fun x=>(x.name,x.labels,x.av,x.mem,x.slots,x.aT)
theorem iy {w:World} {x:aM} {cs:List Value} {F:List Nat} (h:rd w x cs F):∃(gu:Option Addr) (gy:Nat) (jw:List Nat) (kJ:Option Addr) (kK:Nat) (qU:List Nat),cs = [.string x.name,.slice gu x.labels.length gy,.int .i64 x.av,.int .i64 x.mem,.int .i64 x.slots,.slice kJ x.aT.length kK]∧F = jw++(qU)∧x.name.size≤maxLen∧Sl w x.labels gu gy jw∧bp x.av∧bp x.mem∧bp x.slots∧Sl w x.aT kJ kK qU:=by
 obtain ⟨_,_,_,_,rfl,rfl,⟨rfl,rfl,hname⟩,_,_,_,_,rfl,rfl,dO,_,_,_,_,rfl,rfl,⟨rfl,rfl,vg⟩,_,_,_,_,rfl,rfl,⟨rfl,rfl,cF⟩,_,_,_,_,rfl,rfl,⟨rfl,rfl,uI⟩,jq⟩:=h;obtain ⟨gu,gy,rfl,dO⟩:=jB dO;obtain ⟨kJ,kK,rfl,jq⟩:=jB jq;exact ⟨gu,gy,_,kJ,kK,_,rfl,S',hname,dO,vg,cF,uI,jq⟩
structure rZ where
 pack:Int
 spread:Int
 soft:Int
instance:ba rZ:=ba.nt fun x=>(x.pack,x.spread,x.soft)
theorem mg {w:World} {x:rZ} {cs:List Value} {F:List Nat} (h:rd w x cs F):cs = [.int .i64 x.pack,.int .i64 x.spread,.int .i64 x.soft]∧F = []∧bp x.pack∧bp x.spread∧bp x.soft:=by
 obtain ⟨_,_,_,_,rfl,rfl,⟨rfl,rfl,O4⟩,_,_,_,_,rfl,rfl,⟨rfl,rfl,U0⟩,⟨rfl,rfl,O8⟩⟩:=h;exact ⟨rfl,S',O4,U0,O8⟩
theorem Zj (w:World) (x:rZ) (O4:bp x.pack) (U0:bp x.spread) (O8:bp x.soft):rd w x [.int .i64 x.pack,.int .i64 x.spread,.int .i64 x.soft] []:=⟨_,_,_,_,rfl,rfl,⟨rfl,rfl,O4⟩,_,_,_,_,rfl,rfl,⟨rfl,rfl,U0⟩,⟨rfl,rfl,O8⟩⟩
structure af where
 aS:nI
 on:ByteArray
 seq:Int
instance:ba af:=ba.nt fun x=>(x.aS,x.on,x.seq)
theorem kE {w:World} {x:af} {cs:List Value} {F:List Nat} (h:rd w x cs F):∃(gV:Option Addr) (gW:Nat) (lF:List Nat) (iR:Option Addr) (iT:Nat) (mV:List Nat) (dD:Option Addr) (dF:Nat) (iH:List Nat),cs = [.string x.aS.name,.slice gV x.aS.labels.length gW,.int .i64 x.aS.av,.int .i64 x.aS.mem,.int .i64 x.aS.ar,.slice iR x.aS.ag.length iT,.slice dD x.aS.ae.length dF,.string x.on,.int .i64 x.seq]∧F = lF++(mV++(iH))∧x.aS.name.size≤maxLen∧Sl w x.aS.labels gV gW lF∧bp x.aS.av∧bp x.aS.mem∧bp x.aS.ar∧Sl w x.aS.ag iR iT mV∧Sl w x.aS.ae dD dF iH∧x.on.size≤maxLen∧bp x.seq:=by
 obtain ⟨_,_,_,_,rfl,rfl,WT,_,_,_,_,rfl,rfl,⟨rfl,rfl,ie⟩,⟨rfl,rfl,hseq⟩⟩:=h;obtain ⟨gV,gW,lF,iR,iT,mV,dD,dF,iH,rfl,rfl,nY,iE,rF,rG,oZ,je,dN⟩:=dL WT;exact ⟨gV,gW,_,iR,iT,_,dD,dF,_,rfl,S',nY,iE,rF,rG,oZ,je,dN,ie,hseq⟩
structure aU where
 aa:List aM
 au:List af
 next:Int
 weights:rZ
instance:ba aU:=ba.nt fun x=>(x.aa,x.au,x.next,x.weights)
theorem aO {w:World} {x:aU} {cs:List Value} {F:List Nat} (h:rd w x cs F):∃(bG:Option Addr) (bD:Nat) (fQ:List Nat) (dn:Option Addr) (bW:Nat) (jg:List Nat),cs = [.slice bG x.aa.length bD,.slice dn x.au.length bW,.int .i64 x.next,.int .i64 x.weights.pack,.int .i64 x.weights.spread,.int .i64 x.weights.soft]∧F = fQ++(jg)∧Sl w x.aa bG bD fQ∧Sl w x.au dn bW jg∧bp x.next∧bp x.weights.pack∧bp x.weights.spread∧bp x.weights.soft:=by
 obtain ⟨_,_,_,_,rfl,rfl,bQ,_,_,_,_,rfl,rfl,dM,_,_,_,_,rfl,rfl,⟨rfl,rfl,hnext⟩,xM⟩:=h;obtain ⟨bG,bD,rfl,bQ⟩:=jB bQ;obtain ⟨dn,bW,rfl,dM⟩:=jB dM;obtain ⟨rfl,rfl,aV,aP,aW⟩:=mg xM;exact ⟨bG,bD,_,dn,bW,_,rfl,S',bQ,dM,hnext,aV,aP,aW⟩
structure b9 where
 kind:Int
 aS:nI
 bm:aM
instance:ba b9:=ba.nt fun x=>(x.kind,x.aS,x.bm)
theorem NS {w:World} {x:b9} {cs:List Value} {F:List Nat} (h:rd w x cs F):∃(gV:Option Addr) (gW:Nat) (lF:List Nat) (iR:Option Addr) (iT:Nat) (mV:List Nat) (dD:Option Addr) (dF:Nat) (iH:List Nat) (yx:Option Addr) (yA:Nat) (JV:List Nat) (yB:Option Addr) (yC:Nat) (JW:List Nat),cs = [.int .i64 x.kind,.string x.aS.name,.slice gV x.aS.labels.length gW,.int .i64 x.aS.av,.int .i64 x.aS.mem,.int .i64 x.aS.ar,.slice iR x.aS.ag.length iT,.slice dD x.aS.ae.length dF,.string x.bm.name,.slice yx x.bm.labels.length yA,.int .i64 x.bm.av,.int .i64 x.bm.mem,.int .i64 x.bm.slots,.slice yB x.bm.aT.length yC]∧F = lF++(mV++(iH++(JV++(JW))))∧bp x.kind∧x.aS.name.size≤maxLen∧Sl w x.aS.labels gV gW lF∧bp x.aS.av∧bp x.aS.mem∧bp x.aS.ar∧Sl w x.aS.ag iR iT mV∧Sl w x.aS.ae dD dF iH∧x.bm.name.size≤maxLen∧Sl w x.bm.labels yx yA JV∧bp x.bm.av∧bp x.bm.mem∧bp x.bm.slots∧Sl w x.bm.aT yB yC JW:=by
 obtain ⟨_,_,_,_,rfl,rfl,⟨rfl,rfl,hkind⟩,_,_,_,_,rfl,rfl,WT,afd⟩:=h;obtain ⟨gV,gW,lF,iR,iT,mV,dD,dF,iH,rfl,rfl,nY,iE,rF,rG,oZ,je,dN⟩:=dL WT;obtain ⟨yx,yA,JV,yB,yC,JW,rfl,rfl,JX,EZ,NT,NU,Hf,E5⟩:=iy afd;exact ⟨gV,gW,_,iR,iT,_,dD,dF,_,yx,yA,_,yB,yC,_,rfl,S',hkind,nY,iE,rF,rG,oZ,je,dN,JX,EZ,NT,NU,Hf,E5⟩
structure tV where
 code:Int
 at_:Int
 path:ByteArray
instance:ba tV:=ba.nt fun x=>(x.code,x.at_,x.path)
end Go.Proofs.YtajbbmembionpaaGreat
