/- The words of labels and names, of the program and of the reference. No condition. -/
import Derived.Test.YtajbbmembionpaaGreatKit
import Derived.Lib.IndexAny
import Derived.Test.YtajbbmembionpaaGreatOrdP
import Derived.Shelf.Small.Bits
import Derived.Shelf.Bits.Mul64
namespace Go.Proofs.YtajbbmembionpaaGreat
open Go.ChangeShapes Go.WideShapes Go.ChangeAt Go.RowKit
set_option linter.unusedVariables false
set_option linter.unusedSimpArgs false
set_option maxHeartbeats 2000000
set_option maxRecDepth 100000
def GL (c:Int):Bool:=decide (97≤c)&&decide (c≤122) || decide (65≤c)&&decide (c≤90) || decide (48≤c)&&decide (c≤57)
def M5 (c:Int):Bool:=decide (97≤c)&&decide (c≤122)
def M6 (c:Int):Bool:=decide (48≤c)&&decide (c≤57)
def mQ (o:ByteArray) (c:UInt8):Bool:=GL c.toNat || o.data.toList.contains c
def GN (o s:ByteArray):Bool:=decide (0 < s.size)&&(GL (s.data.toList.getD 0 0).toNat&&GL (s.data.toList.getD (s.size - 1) 0).toNat)&&s.data.toList.all (mQ o)
theorem DF {s:ByteArray} {k:Nat} (h:k < s.size):s.data.toList.getD k 0 = s[k]:=by
 have h':k < s.data.size:=h;rw [List.getD_eq_getElem?_getD,List.getElem?_eq_getElem (by simpa using h')];simp [ByteArray.getElem_eq_getElem_data]
theorem YX {s:ByteArray} {p:UInt8→Bool} (h:∀j (hj:j < s.size),p s[j] = true):s.data.toList.all p = true:=by
 rw [List.all_eq_true];intro x hx;obtain ⟨j,hj,rfl⟩:=List.getElem_of_mem hx;have R':j < s.size:=by simpa using hj
 have:=h j R';simpa [ByteArray.getElem_eq_getElem_data] using this
theorem TM {s:ByteArray} {p:UInt8→Bool} {k:Nat} (hk:k < s.size) (h:p s[k] = false):s.data.toList.all p = false:=by
 rw [List.all_eq_false];have gp:k < s.data.size:=hk;refine ⟨s.data.toList[k]'(by simpa using gp),List.getElem_mem _,?_⟩;simp only [Array.getElem_toList];rw [ByteArray.getElem_eq_getElem_data] at h;simp [h]
theorem X4 {s:ByteArray} {p:UInt8→Bool} {k:Nat} (av:k < s.size) (h:∀j (hj:j < s.size),j < k→p s[j] = true) (hp:p s[k] = true):∀j (hj:j < s.size),j < k+1→p s[j] = true:=fun j hj fV=>by
 rcases Nat.lt_or_ge j k with Z | Z
 ·exact h j hj Z
 ·obtain rfl:j = k:=by omega
  exact hp
theorem Sa (c:UInt8):((c.toNat:Int)).toNat.toUInt8 = c:=by simp
theorem IL (c:Int) (w:World):Calls Tryz.prog 168 #[.int .u8 c] w fun e w'=>e = .returned (.bool (GL c))∧w' = w:=by
 go_enter Tryz.func168,Tryz.ntmps168;exact DX
theorem Gm (c:Int) (w:World):Calls Tryz.prog 127 #[.int .u8 c] w fun e w'=>e = .returned (.bool (GL c))∧w' = w:=by
 go_enter Tryz.func127,Tryz.ntmps127;exact DX
theorem Q7 (s:ByteArray) (c:Int) (w:World):Calls Tryz.prog 173 #[.string s,.int .u8 c] w fun e w'=>e = .returned (.int .i64 (Lib.indexByte s.data.toList c.toNat.toUInt8))∧w' = w:=by
 go_enter Tryz.func173,Tryz.ntmps173;go_wp2;rw [run_callFunc_extern Tryz.func174 U' U' U' (e:=Extern.BytealgIndexByte.indexByte) U',Lib.run_indexByteString];simp only [Result.andThen];rw [Oper.upon_value];go_wp2;go_ret
 exact ⟨rfl,rfl⟩
theorem Sb (s:ByteArray) (c:Int) (w:World):Calls Tryz.prog 171 #[.string s,.int .u8 c] w fun e w'=>e = .returned (.int .i64 (Lib.indexByte s.data.toList c.toNat.toUInt8))∧w' = w:=by
 go_enter Tryz.func171,Tryz.ntmps171;go_wp2_with fail
 refine (Q7 s c _).mono ?_;rintro e w' ⟨rfl,rfl⟩;go_wp2;go_ret
 exact ⟨rfl,rfl⟩
theorem Sc (s o:ByteArray) (w:World) (hs:0 < s.size) (cR:(s.size:Int)≤1048576):Calls Tryz.prog 164 #[.string s,.string o] w fun e w'=>e = .returned (.bool (GN o s))∧w' = w:=by
 go_enter Tryz.func164,Tryz.ntmps164;go_wp2_with fail
 go_loop [9] (fun v=>∃(k:Nat),k≤s.size∧v = .int .i64 k∧Hid (∀j (hj:j < s.size),j < k→mQ o s[j] = true)) (fun v=>s.size - (intOf v).toNat)
 case atStart=>exact ⟨0,Nat.zero_le _,rfl,fun j _ hj=>by omega⟩
 case round =>
  obtain ⟨k,hk,rfl,hall⟩:=hrel;by_cases av:k < s.size
  ·cases Z:GL (s[k].toNat:Int) with
   | true =>
     have g6:mQ o s[k] = true:=(by unfold mQ;rw [Z];rfl);have H1:=I Z;have HN:=I (X4 av hall.out g6);clear Z g6;go_wp2_with (go_at_call 168;refine (IL (s[k].toNat:Int) _).mono ?_;rw [H1.out];rintro e w2 ⟨rfl,rfl⟩)
     exact ⟨⟨k+1,J,N',HN.out⟩,by simp [intOf];omega⟩
   | false =>
     have Bg:=Lib.contains_iff_indexByte o.data.toList s[k];cases h2:o.data.toList.contains s[k] with
     | true =>
       rw [h2] at Bg;have nB:0≤Lib.indexByte o.data.toList ((s[k].toNat:Int)).toNat.toUInt8:=(by rw [Sa];simpa using Bg.symm);have g6:mQ o s[k] = true:=(by unfold mQ;rw [h2];simp);have H1:=I Z;have HN:=I (X4 av hall.out g6);clear Z h2 Bg g6;generalize hgi:Lib.indexByte o.data.toList ((s[k].toNat:Int)).toNat.toUInt8 = gi at *;have M7:=I hgi;clear hgi;go_wp2_with (first | (go_at_call 168;refine (IL (s[k].toNat:Int) _).mono ?_;rw [H1.out];rintro e w2 ⟨rfl,rfl⟩) | (go_at_call 171;refine (Sb o (s[k].toNat:Int) _).mono ?_;rw [M7.out];rintro e w3 ⟨rfl,rfl⟩))
       exact ⟨⟨k+1,J,N',HN.out⟩,by simp [intOf];omega⟩
     | false =>
       rw [h2] at Bg;have nB:Lib.indexByte o.data.toList ((s[k].toNat:Int)).toNat.toUInt8 < 0:=(by rw [Sa];simpa using Bg.symm);have g6:mQ o s[k] = false:=(by unfold mQ;rw [Z,h2];rfl);have bB:GN o s = false:=(by unfold GN;rw [TM av g6];simp);have HF:=I bB;have H1:=I Z;clear Z h2 Bg g6 bB;generalize hgi:Lib.indexByte o.data.toList ((s[k].toNat:Int)).toNat.toUInt8 = gi at *;have M7:=I hgi;clear hgi;go_wp2_with (first | (go_at_call 168;refine (IL (s[k].toNat:Int) _).mono ?_;rw [H1.out];rintro e w2 ⟨rfl,rfl⟩) | (go_at_call 171;refine (Sb o (s[k].toNat:Int) _).mono ?_;rw [M7.out];rintro e w3 ⟨rfl,rfl⟩))
       go_ret
       exact ⟨by rw [HF.out];rfl,rfl⟩
  ·have bI:k = s.size:=J;subst bI;have ha:=YX (p:=mQ o) (fun j hj=>hall.out j hj hj);cases Z:GL (s[0].toNat:Int) with
   | false =>
     have bB:GN o s = false:=(by unfold GN;rw [DF hs,Z];simp);have HF:=I bB;have H1:=I Z;clear Z bB;go_wp2_with fail
     refine (IL (s[0].toNat:Int) _).mono ?_;rw [H1.out];rintro e w2 ⟨rfl,rfl⟩;go_wp2;go_ret
     exact ⟨by rw [HF.out];rfl,rfl⟩
   | true =>
     cases h2:GL (s[s.size - 1].toNat:Int)
     all_goals
      have bB:GN o s = _:=(by unfold GN;rw [ha,DF hs,DF (show s.size - 1 < s.size by omega),Z,h2]);simp only [hs,decide_true,Bool.true_and,Bool.and_true,Bool.and_false] at bB;have HF:=I bB;have H1:=I Z;have H2:=I h2;clear Z h2 bB;go_wp2_with fail
      refine (IL (s[0].toNat:Int) _).mono ?_;rw [H1.out];rintro e w2 ⟨rfl,rfl⟩;go_wp2_with fail
      refine (IL (s[s.size - 1].toNat:Int) _).mono ?_;rw [H2.out];rintro e w2 ⟨rfl,rfl⟩;go_wp2;go_ret
      exact ⟨by rw [HF.out];rfl,rfl⟩
theorem vO {w:World} {x:ao} {cs:List Value} {F:List Nat} (h:rd w x cs F):cs = [.string x.key,.string x.value]∧F = []∧x.key.size≤maxLen∧x.value.size≤maxLen:=by
 obtain ⟨_,_,_,_,rfl,rfl,⟨rfl,rfl,ce⟩,⟨rfl,rfl,kP⟩⟩:=h;exact ⟨rfl,S',ce,kP⟩
theorem Fo (w:World) (x:ao) (ce:x.key.size≤maxLen) (kP:x.value.size≤maxLen):rd w x [.string x.key,.string x.value] []:=⟨_,_,_,_,rfl,rfl,⟨rfl,rfl,ce⟩,⟨rfl,rfl,kP⟩⟩
structure aL where
 key:ByteArray
 op:Int
 values:List ByteArray
instance:bb aL:=bb.mq fun x=>(x.key,x.op,x.values)
theorem og {w:World} {x:aL} {cs:List Value} {F:List Nat} (h:rd w x cs F):∃(jy:Option Addr) (ji:Nat) (Bo:List Nat),cs = [.string x.key,.int .i64 x.op,.slice jy x.values.length ji]∧F = Bo∧x.key.size≤maxLen∧bt x.op∧Sl w x.values jy ji Bo:=by
 obtain ⟨_,_,_,_,rfl,rfl,⟨rfl,rfl,ce⟩,_,_,_,_,rfl,rfl,⟨rfl,rfl,eK⟩,kV⟩:=h;obtain ⟨jy,ji,rfl,kV⟩:=jB kV;exact ⟨jy,ji,_,rfl,S',ce,eK,kV⟩
structure iU where
 key:ByteArray
 value:ByteArray
 ap:Int
instance:bb iU:=bb.mq fun x=>(x.key,x.value,x.ap)
theorem oK {w:World} {x:iU} {cs:List Value} {F:List Nat} (h:rd w x cs F):cs = [.string x.key,.string x.value,.int .i64 x.ap]∧F = []∧x.key.size≤maxLen∧x.value.size≤maxLen∧bt x.ap:=by
 obtain ⟨_,_,_,_,rfl,rfl,⟨rfl,rfl,ce⟩,_,_,_,_,rfl,rfl,⟨rfl,rfl,kP⟩,⟨rfl,rfl,lD⟩⟩:=h;exact ⟨rfl,S',ce,kP,lD⟩
theorem Q8 (w:World) (x:iU) (ce:x.key.size≤maxLen) (kP:x.value.size≤maxLen) (lD:bt x.ap):rd w x [.string x.key,.string x.value,.int .i64 x.ap] []:=⟨_,_,_,_,rfl,rfl,⟨rfl,rfl,ce⟩,_,_,_,_,rfl,rfl,⟨rfl,rfl,kP⟩,⟨rfl,rfl,lD⟩⟩
structure bH where
 key:ByteArray
 equal:Bool
 value:ByteArray
 ap:Int
instance:bb bH:=bb.mq fun x=>(x.key,x.equal,x.value,x.ap)
theorem jv {w:World} {x:bH} {cs:List Value} {F:List Nat} (h:rd w x cs F):cs = [.string x.key,.bool x.equal,.string x.value,.int .i64 x.ap]∧F = []∧x.key.size≤maxLen∧x.value.size≤maxLen∧bt x.ap:=by
 obtain ⟨_,_,_,_,rfl,rfl,⟨rfl,rfl,ce⟩,_,_,_,_,rfl,rfl,⟨rfl,rfl⟩,_,_,_,_,rfl,rfl,⟨rfl,rfl,kP⟩,⟨rfl,rfl,lD⟩⟩:=h;exact ⟨rfl,S',ce,kP,lD⟩
theorem Ov (w:World) (x:bH) (ce:x.key.size≤maxLen) (kP:x.value.size≤maxLen) (lD:bt x.ap):rd w x [.string x.key,.bool x.equal,.string x.value,.int .i64 x.ap] []:=⟨_,_,_,_,rfl,rfl,⟨rfl,rfl,ce⟩,_,_,_,_,rfl,rfl,⟨rfl,rfl⟩,_,_,_,_,rfl,rfl,⟨rfl,rfl,kP⟩,⟨rfl,rfl,lD⟩⟩
structure nI where
 name:ByteArray
 labels:List ao
 az:Int
 mem:Int
 aw:Int
 ai:List aL
 ae:List bH
instance:bb nI:=bb.mq fun x=>(x.name,x.labels,x.az,x.mem,x.aw,x.ai,x.ae)
theorem dL {w:World} {x:nI} {cs:List Value} {F:List Nat} (h:rd w x cs F):∃(gu:Option Addr) (gy:Nat) (jw:List Nat) (oh:Option Addr) (nT:Nat) (wG:List Nat) (fA:Option Addr) (fB:Nat) (jY:List Nat),cs = [.string x.name,.slice gu x.labels.length gy,.int .i64 x.az,.int .i64 x.mem,.int .i64 x.aw,.slice oh x.ai.length nT,.slice fA x.ae.length fB]∧F = jw++(wG++(jY))∧x.name.size≤maxLen∧Sl w x.labels gu gy jw∧bt x.az∧bt x.mem∧bt x.aw∧Sl w x.ai oh nT wG∧Sl w x.ae fA fB jY:=by
 obtain ⟨_,_,_,_,rfl,rfl,⟨rfl,rfl,hname⟩,_,_,_,_,rfl,rfl,dO,_,_,_,_,rfl,rfl,⟨rfl,rfl,vg⟩,_,_,_,_,rfl,rfl,⟨rfl,rfl,cG⟩,_,_,_,_,rfl,rfl,⟨rfl,rfl,BJ⟩,_,_,_,_,rfl,rfl,mX,eG⟩:=h;obtain ⟨gu,gy,rfl,dO⟩:=jB dO;obtain ⟨oh,nT,rfl,mX⟩:=jB mX;obtain ⟨fA,fB,rfl,eG⟩:=jB eG;exact ⟨gu,gy,_,oh,nT,_,fA,fB,_,rfl,S',hname,dO,vg,cG,BJ,mX,eG⟩
structure aR where
 name:ByteArray
 labels:List ao
 az:Int
 mem:Int
 ax:Int
 aT:List iU
instance:bb aR:=bb.mq fun x=>(x.name,x.labels,x.az,x.mem,x.ax,x.aT)
theorem iy {w:World} {x:aR} {cs:List Value} {F:List Nat} (h:rd w x cs F):∃(gu:Option Addr) (gy:Nat) (jw:List Nat) (kJ:Option Addr) (kK:Nat) (qU:List Nat),cs = [.string x.name,.slice gu x.labels.length gy,.int .i64 x.az,.int .i64 x.mem,.int .i64 x.ax,.slice kJ x.aT.length kK]∧F = jw++(qU)∧x.name.size≤maxLen∧Sl w x.labels gu gy jw∧bt x.az∧bt x.mem∧bt x.ax∧Sl w x.aT kJ kK qU:=by
 obtain ⟨_,_,_,_,rfl,rfl,⟨rfl,rfl,hname⟩,_,_,_,_,rfl,rfl,dO,_,_,_,_,rfl,rfl,⟨rfl,rfl,vg⟩,_,_,_,_,rfl,rfl,⟨rfl,rfl,cG⟩,_,_,_,_,rfl,rfl,⟨rfl,rfl,uI⟩,jq⟩:=h;obtain ⟨gu,gy,rfl,dO⟩:=jB dO;obtain ⟨kJ,kK,rfl,jq⟩:=jB jq;exact ⟨gu,gy,_,kJ,kK,_,rfl,S',hname,dO,vg,cG,uI,jq⟩
structure rZ where
 pack:Int
 af:Int
 an:Int
instance:bb rZ:=bb.mq fun x=>(x.pack,x.af,x.an)
theorem mg {w:World} {x:rZ} {cs:List Value} {F:List Nat} (h:rd w x cs F):cs = [.int .i64 x.pack,.int .i64 x.af,.int .i64 x.an]∧F = []∧bt x.pack∧bt x.af∧bt x.an:=by
 obtain ⟨_,_,_,_,rfl,rfl,⟨rfl,rfl,MQ⟩,_,_,_,_,rfl,rfl,⟨rfl,rfl,U0⟩,⟨rfl,rfl,MR⟩⟩:=h;exact ⟨rfl,S',MQ,U0,MR⟩
theorem Zj (w:World) (x:rZ) (MQ:bt x.pack) (U0:bt x.af) (MR:bt x.an):rd w x [.int .i64 x.pack,.int .i64 x.af,.int .i64 x.an] []:=⟨_,_,_,_,rfl,rfl,⟨rfl,rfl,MQ⟩,_,_,_,_,rfl,rfl,⟨rfl,rfl,U0⟩,⟨rfl,rfl,MR⟩⟩
structure ag where
 aS:nI
 on:ByteArray
 seq:Int
instance:bb ag:=bb.mq fun x=>(x.aS,x.on,x.seq)
theorem kE {w:World} {x:ag} {cs:List Value} {F:List Nat} (h:rd w x cs F):∃(gV:Option Addr) (gW:Nat) (lF:List Nat) (iR:Option Addr) (iT:Nat) (mV:List Nat) (dD:Option Addr) (dF:Nat) (iH:List Nat),cs = [.string x.aS.name,.slice gV x.aS.labels.length gW,.int .i64 x.aS.az,.int .i64 x.aS.mem,.int .i64 x.aS.aw,.slice iR x.aS.ai.length iT,.slice dD x.aS.ae.length dF,.string x.on,.int .i64 x.seq]∧F = lF++(mV++(iH))∧x.aS.name.size≤maxLen∧Sl w x.aS.labels gV gW lF∧bt x.aS.az∧bt x.aS.mem∧bt x.aS.aw∧Sl w x.aS.ai iR iT mV∧Sl w x.aS.ae dD dF iH∧x.on.size≤maxLen∧bt x.seq:=by
 obtain ⟨_,_,_,_,rfl,rfl,WT,_,_,_,_,rfl,rfl,⟨rfl,rfl,gO⟩,⟨rfl,rfl,hseq⟩⟩:=h;obtain ⟨gV,gW,lF,iR,iT,mV,dD,dF,iH,rfl,rfl,nY,iE,rF,rG,oZ,je,dN⟩:=dL WT;exact ⟨gV,gW,_,iR,iT,_,dD,dF,_,rfl,S',nY,iE,rF,rG,oZ,je,dN,gO,hseq⟩
structure aU where
 V:List aR
 O:List ag
 next:Int
 weights:rZ
instance:bb aU:=bb.mq fun x=>(x.V,x.O,x.next,x.weights)
theorem aO {w:World} {x:aU} {cs:List Value} {F:List Nat} (h:rd w x cs F):∃(bG:Option Addr) (bD:Nat) (fQ:List Nat) (dn:Option Addr) (bW:Nat) (jg:List Nat),cs = [.slice bG x.V.length bD,.slice dn x.O.length bW,.int .i64 x.next,.int .i64 x.weights.pack,.int .i64 x.weights.af,.int .i64 x.weights.an]∧F = fQ++(jg)∧Sl w x.V bG bD fQ∧Sl w x.O dn bW jg∧bt x.next∧bt x.weights.pack∧bt x.weights.af∧bt x.weights.an:=by
 obtain ⟨_,_,_,_,rfl,rfl,bQ,_,_,_,_,rfl,rfl,dM,_,_,_,_,rfl,rfl,⟨rfl,rfl,hnext⟩,xM⟩:=h;obtain ⟨bG,bD,rfl,bQ⟩:=jB bQ;obtain ⟨dn,bW,rfl,dM⟩:=jB dM;obtain ⟨rfl,rfl,aV,aP,aW⟩:=mg xM;exact ⟨bG,bD,_,dn,bW,_,rfl,S',bQ,dM,hnext,aV,aP,aW⟩
structure cB where
 kind:Int
 aS:nI
 bo:aR
instance:bb cB:=bb.mq fun x=>(x.kind,x.aS,x.bo)
theorem NS {w:World} {x:cB} {cs:List Value} {F:List Nat} (h:rd w x cs F):∃(gV:Option Addr) (gW:Nat) (lF:List Nat) (iR:Option Addr) (iT:Nat) (mV:List Nat) (dD:Option Addr) (dF:Nat) (iH:List Nat) (yx:Option Addr) (yA:Nat) (JV:List Nat) (yB:Option Addr) (yC:Nat) (JW:List Nat),cs = [.int .i64 x.kind,.string x.aS.name,.slice gV x.aS.labels.length gW,.int .i64 x.aS.az,.int .i64 x.aS.mem,.int .i64 x.aS.aw,.slice iR x.aS.ai.length iT,.slice dD x.aS.ae.length dF,.string x.bo.name,.slice yx x.bo.labels.length yA,.int .i64 x.bo.az,.int .i64 x.bo.mem,.int .i64 x.bo.ax,.slice yB x.bo.aT.length yC]∧F = lF++(mV++(iH++(JV++(JW))))∧bt x.kind∧x.aS.name.size≤maxLen∧Sl w x.aS.labels gV gW lF∧bt x.aS.az∧bt x.aS.mem∧bt x.aS.aw∧Sl w x.aS.ai iR iT mV∧Sl w x.aS.ae dD dF iH∧x.bo.name.size≤maxLen∧Sl w x.bo.labels yx yA JV∧bt x.bo.az∧bt x.bo.mem∧bt x.bo.ax∧Sl w x.bo.aT yB yC JW:=by
 obtain ⟨_,_,_,_,rfl,rfl,⟨rfl,rfl,hkind⟩,_,_,_,_,rfl,rfl,WT,afd⟩:=h;obtain ⟨gV,gW,lF,iR,iT,mV,dD,dF,iH,rfl,rfl,nY,iE,rF,rG,oZ,je,dN⟩:=dL WT;obtain ⟨yx,yA,JV,yB,yC,JW,rfl,rfl,JX,EZ,NT,NU,Hf,E5⟩:=iy afd;exact ⟨gV,gW,_,iR,iT,_,dD,dF,_,yx,yA,_,yB,yC,_,rfl,S',hkind,nY,iE,rF,rG,oZ,je,dN,JX,EZ,NT,NU,Hf,E5⟩
structure tV where
 MS:Int
 kv:Int
 path:ByteArray
instance:bb tV:=bb.mq fun x=>(x.MS,x.kv,x.path)
theorem Zd (n:Nat) (h:n < 256):B8 n.toUInt8 = .int .u8 (n:Int):=by
 unfold B8;congr 1;have:n.toUInt8.toNat = n:=by simp [Nat.toUInt8,UInt8.toNat_ofNat'];omega
 rw [this]
def CQ (part whole:Int):Int:=if whole≤0∨part < 0 then 0 else if whole≤part then 100 else 100 * part / whole
theorem Ot {part whole:Int} (h:whole≤0∨part < 0):CQ part whole = 0:=by unfold CQ;rw [if_pos h]
theorem Uk {part whole:Int} (Z:¬whole≤0) (h2:¬part < 0) (h:whole≤part):CQ part whole = 100:=by unfold CQ;rw [if_neg J,if_pos h]
theorem Ul {P W:Nat} (hW:0 < W) (h:P < W):CQ P W = ((100 * P / W:Nat):Int):=by
 unfold CQ;rw [if_neg J,if_neg J,Int.natCast_ediv,Int.natCast_mul];rfl
theorem zJ (part whole:Int):0≤CQ part whole∧CQ part whole≤100:=by
 by_cases Z:whole≤0∨part < 0
 ·rw [Ot Z];omega
 ·by_cases h2:whole≤part
  ·rw [Uk J J h2];omega
  ·obtain ⟨P,rfl⟩:∃P:Nat,part = P:=⟨part.toNat,J⟩;obtain ⟨W,rfl⟩:∃W:Nat,whole = W:=⟨whole.toNat,J⟩;rw [Ul J J];have:100 * P / W≤100:=(by rw [Nat.div_le_iff_le_mul_add_pred J];rw [Nat.mul_comm W 100];have:100 * P≤100 * W:=Nat.mul_le_mul_left _ J;omega);generalize 100 * P / W = Q at *;omega
theorem Ce {a b:ByteArray} (h:(a.toList == b.toList) = true):a = b:=by
 have Z:a.toList = b.toList:=by simpa using h
 have h2:a.data.toList = b.data.toList:=by rw [← ByteArray.toList_eq,← ByteArray.toList_eq];exact Z
 cases a;cases b;simp_all
def l4 (a b:ByteArray):Bool:=a.toList == b.toList
theorem PW (a b:ByteArray):l4 a b = true↔a = b:=⟨Ce,fun h=>by subst h;simp [l4]⟩
def same {α:Type} (eq:α→α→Bool):List α→List α→Bool
 | [],[]=>true
 | a :: l,b :: m=>eq a b&&same eq l m
 | _,_=>false
def Aq (a b:iU):Bool:=(a.key.toList == b.key.toList)&&(a.value.toList == b.value.toList)&&(a.ap == b.ap)
theorem Xx (a b:iU):Aq a b = true↔a = b:=by
 constructor
 ·intro h;simp only [Aq,Bool.and_eq_true] at h;have h0:=Ce h.1.1;have Z:=Ce h.1.2;have h2:=eq_of_beq h.2;cases a;cases b
  simp only at h0 Z h2;subst h0 Z h2;rfl
 ·rintro rfl;simp [Aq, *]
def oP (a b:bH):Bool:=(a.key.toList == b.key.toList)&&(a.equal == b.equal)&&(a.value.toList == b.value.toList)&&(a.ap == b.ap)
theorem WC (a b:bH):oP a b = true↔a = b:=by
 constructor
 ·intro h;simp only [oP,Bool.and_eq_true] at h;have h0:=Ce h.1.1.1;have Z:=eq_of_beq h.1.1.2;have h2:=Ce h.1.2;have h3:=eq_of_beq h.2;cases a;cases b
  simp only at h0 Z h2 h3;subst h0 Z h2 h3;rfl
 ·rintro rfl;simp [oP, *]
theorem aZ {α:Type} [bb α] {w w':World} {x:α} {cs:List Value} {F:List Nat} (h:rd w x cs F) (U:Below w.heap.size w w'):rd w' x cs F :=
 bb.frame h (fun b eo=>U.block b (bb.lt h b eo)) U.size
theorem IB (part whole:Int) (w:World) (hp:bt part) (hw:bt whole) :
 Calls Tryz.prog 28 #[.int .i64 part,.int .i64 whole] w fun e w'=>e = .returned (.int .i64 (CQ part whole))∧Below w.heap.size w w':=by
 by_cases Z:whole≤0
 ·have hd:decide (whole≤0) = true:=by rw [decide_eq_true_eq];exact Z
  have hs:=I (Ot (part:=part) (.inl Z));exact xY
 have hd:decide (whole≤0) = false:=by rw [decide_eq_false_iff_not];exact Z
 by_cases h2:part < 0
 ·have Un:decide (part < 0) = true:=by rw [decide_eq_true_eq];exact h2
  have hs:=I (Ot (whole:=whole) (.inr h2));exact xY
 have Un:decide (part < 0) = false:=by rw [decide_eq_false_iff_not];exact h2
 by_cases h3:whole≤part
 ·have Oe:decide (whole≤part) = true:=by rw [decide_eq_true_eq];exact h3
  have hs:=I (Uk Z h2 h3);exact xY
 have Oe:decide (whole≤part) = false:=by rw [decide_eq_false_iff_not];exact h3
 obtain ⟨P,rfl⟩:∃P:Nat,part = P:=⟨part.toNat,J⟩;obtain ⟨W,rfl⟩:∃W:Nat,whole = W:=⟨whole.toNat,J⟩;have hW:W < 9223372036854775808:=by have:=hw.2;omega
 have hPW:P < W:=by omega
 have hs:=I (Ul (P:=P) (W:=W) J hPW);have pP:0 < W:=by omega
 clear hp hw Z h2 h3;go_enter Tryz.func28,Tryz.ntmps28;go_wp2_with fail
 go_loopw [5,6,7] (fun n r i wr=>∃(j N R:Nat),j≤100∧n = .int .i64 N∧r = .int .i64 R∧i = .int .i64 j∧Hid (N * W+R = j * P)∧R < W∧N≤j∧wr = w) (fun _ _ i _=>100 - (intOf i).toNat)
 case atStart=>exact ⟨0,0,0,J,rfl,rfl,rfl,I S',pP,Nat.le_refl _,rfl⟩
 case round =>
  obtain ⟨j,N,R,hj,rfl,rfl,rfl,HN,hR,hNj,rfl⟩:=hrel;by_cases av:(j:Int) < 100
  ·by_cases hc:(W:Int) - (P:Int)≤(R:Int)
   ·have yN:decide ((W:Int) - (P:Int)≤(R:Int)) = true:=(by rw [decide_eq_true_eq];exact hc);go_wp2_with fail
    refine ⟨⟨j+1,N+1,R - (W - P),J,N',N',N',I ?_,J,J,(by first | rfl | trivial)⟩,by simp [intOf];omega⟩;have:=HN.out;rw [Nat.add_mul,Nat.add_mul];omega
   ·have yN:decide ((W:Int) - (P:Int)≤(R:Int)) = false:=(by rw [decide_eq_false_iff_not];exact hc);go_wp2_with fail
    refine ⟨⟨j+1,N,R+P,J,rfl,N',N',I ?_,J,J,(by first | rfl | trivial)⟩,by simp [intOf];omega⟩;have:=HN.out;rw [Nat.add_mul j];omega
  ·obtain rfl:j = 100:=by omega
   go_wp2_with fail
   go_ret
   exact ⟨by rw [hs.out,← apY HN.out hR];rfl,aj _⟩
def pK {α:Type} (p:α→Bool):List α→Int
 | []=>-1
 | x :: xs=>if p x then 0 else if pK p xs < 0 then -1 else pK p xs+1
theorem F5 {α:Type} {p:α→Bool} : ∀{xs:List α},(∀x∈xs,p x = false)→pK p xs = -1
 | [],_=>rfl
 | x :: xs,h=>by
   have Z:=h x (List.mem_cons_self ..);have h2:=F5 (xs:=xs) fun y hy=>h y (List.mem_cons_of_mem _ hy);simp [pK,Z,h2]
theorem Fj {α:Type} {p:α→Bool} : ∀{xs:List α} {k:Nat} (hk:k < xs.length),(∀x∈xs.take k,p x = false)→p xs[k] = true→pK p xs = k
 | x :: xs,0,_,_,h=>by simp at h;simp [pK,h]
 | x :: xs,k+1,hk,U,h=>by
   have Z:=U x S';have h2:=Fj (xs:=xs) (k:=k) KW (fun y hy=>U y (by simp [hy])) Ye;simp only [pK,Z,h2];rw [if_neg S',if_neg J];omega
theorem yQ {α:Type} {p:α→Bool} {xs:List α} {k:Nat} (hk:k < xs.length) (h:∀x∈xs.take k,p x = false) (hx:p xs[k] = false):∀x∈xs.take (k+1),p x = false:=by
 rw [List.take_succ_eq_append_getElem hk];intro x hm;rcases List.mem_append.1 hm with hm | hm
 ·exact h x hm
 ·simp at hm;subst hm;exact hx
theorem Nc {α:Type} {p:α→Bool} : ∀(xs:List α),-1≤pK p xs∧pK p xs < xs.length
 | []=>by simp [pK]
 | x :: xs=>by
   have:=Nc (p:=p) xs;simp only [pK,List.length_cons];split
   ·omega
   ·split <;> omega
def iM (nm:ByteArray) (h:aR):Bool:=l4 h.name nm
theorem Sw (x:aR) (cs:List Value) (F:List Nat) (nm:ByteArray) (q:Nat) (w:World) (h:rd w x cs F) (hq:w.cell? ⟨q,0,none⟩ = some (.string nm)) (ow:q < w.heap.size) :
 Calls Tryz.prog 84 #[.agg cs.toArray,.pointer (some ⟨q,0,none⟩)] w fun e w'=>e = .returned (.bool (iM nm x))∧Below w.heap.size w w':=by
 obtain ⟨_,_,_,_,rfl,rfl,⟨rfl,rfl,hname⟩,_,_,_,_,rfl,rfl,dO,_,_,_,_,rfl,rfl,⟨rfl,rfl,vg⟩,_,_,_,_,rfl,rfl,⟨rfl,rfl,cG⟩,_,_,_,_,rfl,rfl,⟨rfl,rfl,uI⟩,jq⟩:=h;obtain ⟨gu,gy,rfl,dO⟩:=jB dO;obtain ⟨kJ,kK,rfl,jq⟩:=jB jq;replace hname:=rV (s:=x.name) hname;replace dO:Sl _ x.labels gu gy _:=dO;replace vg:bt x.az:=vg;replace cG:bt x.mem:=cG;replace uI:bt x.ax:=uI;replace jq:Sl _ x.aT kJ kK _:=jq;simp only [List.cons_append,List.nil_append];go_enter Tryz.func84,Tryz.ntmps84;go_wp2;go_ret
 exact ⟨rfl,ak (aj _) _⟩
theorem ZA (xs:List aR) (A:Option Addr) (c:Nat) (F:List Nat) (nm:ByteArray) (q:Nat) (w:World) (h:Sl w xs A c F) (hq:w.cell? ⟨q,0,none⟩ = some (.string nm)) (ow:q < w.heap.size) (hl:(xs.length:Int)≤1048576) :
 Calls Tryz.prog 83 #[.slice A xs.length c,.func (.func 84) #[] #[.pointer (some ⟨q,0,none⟩)]] w fun e w'=>e = .returned (.int .i64 (pK (iM nm) xs))∧Below w.heap.size w w':=by
 go_enter Tryz.func83,Tryz.ntmps83;go_wp2;go_loopw [5,8] (fun _ i wr=>∃k:Nat,k≤xs.length∧i = .int .i64 k∧Hid (∀x∈xs.take k,iM nm x = false)∧Below w.heap.size w wr) (fun _ i _=>xs.length - (intOf i).toNat)
 case atStart=>exact ⟨0,Nat.zero_le _,rfl,by show ∀_,_;simp,aj _⟩
 case round =>
  obtain ⟨k,hk,rfl,Hn,aK⟩:=hrel;by_cases av:k < xs.length
  ·obtain ⟨b,o,ck,Fk,rfl,o9,hbs,hr,bA,hc⟩:=(h.ext aK).get av;obtain ⟨gu,gy,jw,kJ,kK,qU,aD,rfl,hname,dO,vg,cG,uI,jq⟩:=iy hr;subst aD;obtain ⟨q0,q1,q2,q3,q4,q5⟩:=oI 6 hc;clear hc;have Sx:wr.cell? ⟨q,0,none⟩ = some (.string nm):=(by rw [← hq];exact aK.cell (p:=⟨q,0,none⟩) ow);have FE:q < wr.heap.size:=Nat.lt_of_lt_of_le ow aK.size;cases hp:iM nm xs[k] with
   | false =>
     have HP:=I hp;clear hp;go_wp2_with (go_at_call 84;refine (Sw xs[k] _ _ nm q _ hr Sx FE).mono ?_;rw [HP.out];rintro e w2 ⟨rfl,aq⟩)
     exact ⟨⟨k+1,J,N',yQ av Hn.out HP.out,ah aK aq⟩,by simp [intOf];omega⟩
   | true =>
     have HP:=I hp;clear hp;have HI:=I (Fj av Hn.out HP.out);go_wp2_with (go_at_call 84;refine (Sw xs[k] _ _ nm q _ hr Sx FE).mono ?_;rw [HP.out];rintro e w2 ⟨rfl,aq⟩)
     go_ret
     exact ⟨by rw [HI.out];rfl,ah aK aq⟩
  ·have bI:k = xs.length:=J;subst bI;have X:=Hn.out;rw [List.take_length] at X;have HI:=I (F5 X);clear X;go_wp2;go_ret
   exact ⟨by rw [HI.out];rfl,aK⟩
theorem gK (x:aU) (cs:List Value) (F:List Nat) (nm:ByteArray) (w:World) (h:rd w x cs F) (hl:(x.V.length:Int)≤1048576) :
 Calls Tryz.prog 42 #[.agg cs.toArray,.string nm] w fun e w'=>e = .returned (.int .i64 (pK (iM nm) x.V))∧Below w.heap.size w w':=by
 obtain ⟨_,_,_,_,rfl,rfl,bQ,_,_,_,_,rfl,rfl,dM,_,_,_,_,rfl,rfl,⟨rfl,rfl,hnext⟩,xM⟩:=h;obtain ⟨bG,bD,rfl,bQ⟩:=jB bQ;obtain ⟨dn,bW,rfl,dM⟩:=jB dM;have uJ:=xM;obtain ⟨rfl,rfl,aV,aP,aW⟩:=mg xM;replace bQ:Sl _ x.V bG bD _:=bQ;replace dM:Sl _ x.O dn bW _:=dM;replace hnext:bt x.next:=hnext;replace aV:bt x.weights.pack:=aV;replace aP:bt x.weights.af:=aP;replace aW:bt x.weights.an:=aW;replace uJ:rd _ x.weights [.int .i64 x.weights.pack,.int .i64 x.weights.af,.int .i64 x.weights.an] _:=uJ;simp only [List.cons_append,List.nil_append];go_enter Tryz.func42,Tryz.ntmps42;go_wp2_with (go_at_call 83;refine (ZA x.V _ _ _ nm _ _ (bQ.ext bL) S' S' hl).mono ?_;rintro e w2 ⟨rfl,aq⟩)
 go_ret
 exact ⟨rfl,bL⟩
theorem gQ (x:aU) (cs:List Value) (F:List Nat) (nm:ByteArray) (w:World) (h:rd w x cs F) (hl:(x.V.length:Int)≤1048576) :
 Calls Tryz.prog 50 #[.agg cs.toArray,.string nm] w fun e w'=>e = .returned (.int .i64 (pK (iM nm) x.V))∧Below w.heap.size w w':=by
 obtain ⟨_,_,_,_,rfl,rfl,bQ,_,_,_,_,rfl,rfl,dM,_,_,_,_,rfl,rfl,⟨rfl,rfl,hnext⟩,xM⟩:=h;obtain ⟨bG,bD,rfl,bQ⟩:=jB bQ;obtain ⟨dn,bW,rfl,dM⟩:=jB dM;have uJ:=xM;obtain ⟨rfl,rfl,aV,aP,aW⟩:=mg xM;replace bQ:Sl _ x.V bG bD _:=bQ;replace dM:Sl _ x.O dn bW _:=dM;replace hnext:bt x.next:=hnext;replace aV:bt x.weights.pack:=aV;replace aP:bt x.weights.af:=aP;replace aW:bt x.weights.an:=aW;replace uJ:rd _ x.weights [.int .i64 x.weights.pack,.int .i64 x.weights.af,.int .i64 x.weights.an] _:=uJ;simp only [List.cons_append,List.nil_append];go_enter Tryz.func50,Tryz.ntmps50;go_wp2;go_loop [5] (fun i=>∃k:Nat,k≤x.V.length∧i = .int .i64 k∧Hid (∀y∈x.V.take k,iM nm y = false)) (fun i=>x.V.length - (intOf i).toNat)
 case atStart=>exact ⟨0,Nat.zero_le _,rfl,by show ∀_,_;simp⟩
 case round =>
  obtain ⟨k,hk,rfl,Hn⟩:=hrel;by_cases av:k < x.V.length
  ·obtain ⟨b,o,ck,Fk,rfl,o9,hbs,hr,bA,hc⟩:=bQ.get av;obtain ⟨dU,dV,Ba,kY,kZ,NR,aD,rfl,hname1,jr,IQ,IU,KD,yO⟩:=iy hr;subst aD;obtain ⟨q0,q1,q2,q3,q4,q5⟩:=oI 6 hc;clear hc;have bX:b≠w.heap.size:=Nat.ne_of_lt hbs;cases hp:iM nm x.V[k] with
   | false =>have HP:=I hp;have FF:(x.V[k].name.toList == nm.toList) = false:=hp;clear hp;go_wp2;exact ⟨⟨k+1,J,N',yQ av Hn.out HP.out⟩,by simp [intOf];omega⟩
   | true =>have HP:=I hp;have FF:(x.V[k].name.toList == nm.toList) = true:=hp;exact Eu
  ·have bI:k = x.V.length:=J;exact Ef
def CG (nm:ByteArray) (h:ag):Bool:=l4 h.aS.name nm
theorem xa (x:aU) (cs:List Value) (F:List Nat) (nm:ByteArray) (w:World) (h:rd w x cs F) (hl:(x.O.length:Int)≤1048576) :
 Calls Tryz.prog 19 #[.agg cs.toArray,.string nm] w fun e w'=>e = .returned (.int .i64 (pK (CG nm) x.O))∧Below w.heap.size w w':=by
 obtain ⟨_,_,_,_,rfl,rfl,bQ,_,_,_,_,rfl,rfl,dM,_,_,_,_,rfl,rfl,⟨rfl,rfl,hnext⟩,xM⟩:=h;obtain ⟨bG,bD,rfl,bQ⟩:=jB bQ;obtain ⟨dn,bW,rfl,dM⟩:=jB dM;have uJ:=xM;obtain ⟨rfl,rfl,aV,aP,aW⟩:=mg xM;replace bQ:Sl _ x.V bG bD _:=bQ;replace dM:Sl _ x.O dn bW _:=dM;replace hnext:bt x.next:=hnext;replace aV:bt x.weights.pack:=aV;replace aP:bt x.weights.af:=aP;replace aW:bt x.weights.an:=aW;replace uJ:rd _ x.weights [.int .i64 x.weights.pack,.int .i64 x.weights.af,.int .i64 x.weights.an] _:=uJ;simp only [List.cons_append,List.nil_append];go_enter Tryz.func19,Tryz.ntmps19;go_wp2;go_loop [5] (fun i=>∃k:Nat,k≤x.O.length∧i = .int .i64 k∧Hid (∀y∈x.O.take k,CG nm y = false)) (fun i=>x.O.length - (intOf i).toNat)
 case atStart=>exact ⟨0,Nat.zero_le _,rfl,by show ∀_,_;simp⟩
 case round =>
  obtain ⟨k,hk,rfl,Hn⟩:=hrel;by_cases av:k < x.O.length
  ·obtain ⟨b,o,ck,Fk,rfl,o9,hbs,hr,bA,hc⟩:=dM.get av;obtain ⟨pO,pR,EY,rH,rJ,He,kT,kU,yu,aD,rfl,Dq,yw,FW,FX,Dt,Az,qH,anH,afa⟩:=kE hr;subst aD;obtain ⟨q0,q1,q2,q3,q4,q5,q6,q7,q8⟩:=vN 9 hc;clear hc;have bX:b≠w.heap.size:=Nat.ne_of_lt hbs;cases hp:CG nm x.O[k] with
   | false =>have HP:=I hp;have FF:(x.O[k].aS.name.toList == nm.toList) = false:=hp;clear hp;go_wp2;exact ⟨⟨k+1,J,N',yQ av Hn.out HP.out⟩,by simp [intOf];omega⟩
   | true =>have HP:=I hp;have FF:(x.O[k].aS.name.toList == nm.toList) = true:=hp;exact Eu
  ·have bI:k = x.O.length:=J;exact Ef
end Go.Proofs.YtajbbmembionpaaGreat
