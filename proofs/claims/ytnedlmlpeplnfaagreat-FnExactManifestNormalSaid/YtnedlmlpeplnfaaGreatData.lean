/- The program's data, and how each reads. No condition. -/
import Derived.Test.YtnedlmlpeplnfaaGreatKit
import Derived.Lib.IndexAny
namespace Go.Proofs.YtnedlmlpeplnfaaGreat
open Go.ChangeShapes Go.WideShapes Go.ChangeAt Go.RowKit
set_option linter.unusedVariables false
set_option linter.unusedSimpArgs false
set_option maxHeartbeats 400000
set_option maxRecDepth 100000
theorem vO {w:World} {x:Label} {cs:List Value} {F:List Nat} (h:rd w x cs F):cs = [.string x.key,.string x.value]∧F = []∧x.key.size≤maxLen∧x.value.size≤maxLen:=by
 obtain ⟨_,_,_,_,rfl,rfl,⟨rfl,rfl,hkey⟩,⟨rfl,rfl,kP⟩⟩:=h;exact ⟨rfl,S',hkey,kP⟩
theorem alH (w:World) (x:Label) (hkey:x.key.size≤maxLen) (kP:x.value.size≤maxLen):rd w x [.string x.key,.string x.value] []:=⟨_,_,_,_,rfl,rfl,⟨rfl,rfl,hkey⟩,⟨rfl,rfl,kP⟩⟩
structure Need where
 key:ByteArray
 op:Int
 values:List ByteArray
instance:Dat Need:=Dat.iso fun x=>(x.key,x.op,x.values)
theorem og {w:World} {x:Need} {cs:List Value} {F:List Nat} (h:rd w x cs F):∃(jy:Option Addr) (ji:Nat) (Bo:List Nat),cs = [.string x.key,.int .i64 x.op,.slice jy x.values.length ji]∧F = Bo∧x.key.size≤maxLen∧I64 x.op∧Sl w x.values jy ji Bo:=by
 obtain ⟨_,_,_,_,rfl,rfl,⟨rfl,rfl,hkey⟩,_,_,_,_,rfl,rfl,⟨rfl,rfl,hop⟩,kV⟩:=h;obtain ⟨jy,ji,rfl,kV⟩:=jB kV;exact ⟨jy,ji,_,rfl,S',hkey,hop,kV⟩
structure iU where
 key:ByteArray
 value:ByteArray
 effect:Int
instance:Dat iU:=Dat.iso fun x=>(x.key,x.value,x.effect)
theorem oK {w:World} {x:iU} {cs:List Value} {F:List Nat} (h:rd w x cs F):cs = [.string x.key,.string x.value,.int .i64 x.effect]∧F = []∧x.key.size≤maxLen∧x.value.size≤maxLen∧I64 x.effect:=by
 obtain ⟨_,_,_,_,rfl,rfl,⟨rfl,rfl,hkey⟩,_,_,_,_,rfl,rfl,⟨rfl,rfl,kP⟩,⟨rfl,rfl,lD⟩⟩:=h;exact ⟨rfl,S',hkey,kP,lD⟩
theorem Q8 (w:World) (x:iU) (hkey:x.key.size≤maxLen) (kP:x.value.size≤maxLen) (lD:I64 x.effect):rd w x [.string x.key,.string x.value,.int .i64 x.effect] []:=⟨_,_,_,_,rfl,rfl,⟨rfl,rfl,hkey⟩,_,_,_,_,rfl,rfl,⟨rfl,rfl,kP⟩,⟨rfl,rfl,lD⟩⟩
structure bH where
 key:ByteArray
 equal:Bool
 value:ByteArray
 effect:Int
instance:Dat bH:=Dat.iso fun x=>(x.key,x.equal,x.value,x.effect)
theorem jv {w:World} {x:bH} {cs:List Value} {F:List Nat} (h:rd w x cs F):cs = [.string x.key,.bool x.equal,.string x.value,.int .i64 x.effect]∧F = []∧x.key.size≤maxLen∧x.value.size≤maxLen∧I64 x.effect:=by
 obtain ⟨_,_,_,_,rfl,rfl,⟨rfl,rfl,hkey⟩,_,_,_,_,rfl,rfl,⟨rfl,rfl⟩,_,_,_,_,rfl,rfl,⟨rfl,rfl,kP⟩,⟨rfl,rfl,lD⟩⟩:=h;exact ⟨rfl,S',hkey,kP,lD⟩
theorem Ov (w:World) (x:bH) (hkey:x.key.size≤maxLen) (kP:x.value.size≤maxLen) (lD:I64 x.effect):rd w x [.string x.key,.bool x.equal,.string x.value,.int .i64 x.effect] []:=⟨_,_,_,_,rfl,rfl,⟨rfl,rfl,hkey⟩,_,_,_,_,rfl,rfl,⟨rfl,rfl⟩,_,_,_,_,rfl,rfl,⟨rfl,rfl,kP⟩,⟨rfl,rfl,lD⟩⟩
structure nI where
 name:ByteArray
 labels:List Label
 cpu:Int
 mem:Int
 rank:Int
 needs:List Need
 tolerances:List bH
instance:Dat nI:=Dat.iso fun x=>(x.name,x.labels,x.cpu,x.mem,x.rank,x.needs,x.tolerances)
theorem dL {w:World} {x:nI} {cs:List Value} {F:List Nat} (h:rd w x cs F):∃(gu:Option Addr) (gy:Nat) (jw:List Nat) (oh:Option Addr) (nT:Nat) (wG:List Nat) (fA:Option Addr) (fB:Nat) (jY:List Nat),cs = [.string x.name,.slice gu x.labels.length gy,.int .i64 x.cpu,.int .i64 x.mem,.int .i64 x.rank,.slice oh x.needs.length nT,.slice fA x.tolerances.length fB]∧F = jw++(wG++(jY))∧x.name.size≤maxLen∧Sl w x.labels gu gy jw∧I64 x.cpu∧I64 x.mem∧I64 x.rank∧Sl w x.needs oh nT wG∧Sl w x.tolerances fA fB jY:=by
 obtain ⟨_,_,_,_,rfl,rfl,⟨rfl,rfl,hname⟩,_,_,_,_,rfl,rfl,dO,_,_,_,_,rfl,rfl,⟨rfl,rfl,vg⟩,_,_,_,_,rfl,rfl,⟨rfl,rfl,hmem⟩,_,_,_,_,rfl,rfl,⟨rfl,rfl,BJ⟩,_,_,_,_,rfl,rfl,mX,eG⟩:=h;obtain ⟨gu,gy,rfl,dO⟩:=jB dO;obtain ⟨oh,nT,rfl,mX⟩:=jB mX;obtain ⟨fA,fB,rfl,eG⟩:=jB eG;exact ⟨gu,gy,_,oh,nT,_,fA,fB,_,rfl,S',hname,dO,vg,hmem,BJ,mX,eG⟩
structure Host where
 name:ByteArray
 labels:List Label
 cpu:Int
 mem:Int
 slots:Int
 aT:List iU
instance:Dat Host:=Dat.iso fun x=>(x.name,x.labels,x.cpu,x.mem,x.slots,x.aT)
theorem iy {w:World} {x:Host} {cs:List Value} {F:List Nat} (h:rd w x cs F):∃(gu:Option Addr) (gy:Nat) (jw:List Nat) (kJ:Option Addr) (kK:Nat) (qU:List Nat),cs = [.string x.name,.slice gu x.labels.length gy,.int .i64 x.cpu,.int .i64 x.mem,.int .i64 x.slots,.slice kJ x.aT.length kK]∧F = jw++(qU)∧x.name.size≤maxLen∧Sl w x.labels gu gy jw∧I64 x.cpu∧I64 x.mem∧I64 x.slots∧Sl w x.aT kJ kK qU:=by
 obtain ⟨_,_,_,_,rfl,rfl,⟨rfl,rfl,hname⟩,_,_,_,_,rfl,rfl,dO,_,_,_,_,rfl,rfl,⟨rfl,rfl,vg⟩,_,_,_,_,rfl,rfl,⟨rfl,rfl,hmem⟩,_,_,_,_,rfl,rfl,⟨rfl,rfl,uI⟩,jq⟩:=h;obtain ⟨gu,gy,rfl,dO⟩:=jB dO;obtain ⟨kJ,kK,rfl,jq⟩:=jB jq;exact ⟨gu,gy,_,kJ,kK,_,rfl,S',hname,dO,vg,hmem,uI,jq⟩
structure rZ where
 pack:Int
 spread:Int
 soft:Int
instance:Dat rZ:=Dat.iso fun x=>(x.pack,x.spread,x.soft)
structure Placed where
 aS:nI
 on:ByteArray
 seq:Int
instance:Dat Placed:=Dat.iso fun x=>(x.aS,x.on,x.seq)
structure aU where
 hosts:List Host
 au:List Placed
 next:Int
 weights:rZ
instance:Dat aU:=Dat.iso fun x=>(x.hosts,x.au,x.next,x.weights)
structure Manifest where
 kind:Int
 aS:nI
 host:Host
instance:Dat Manifest:=Dat.iso fun x=>(x.kind,x.aS,x.host)
theorem NS {w:World} {x:Manifest} {cs:List Value} {F:List Nat} (h:rd w x cs F):∃(gV:Option Addr) (gW:Nat) (lF:List Nat) (iR:Option Addr) (iT:Nat) (mV:List Nat) (dD:Option Addr) (dF:Nat) (iH:List Nat) (yx:Option Addr) (yA:Nat) (JV:List Nat) (yB:Option Addr) (yC:Nat) (JW:List Nat),cs = [.int .i64 x.kind,.string x.aS.name,.slice gV x.aS.labels.length gW,.int .i64 x.aS.cpu,.int .i64 x.aS.mem,.int .i64 x.aS.rank,.slice iR x.aS.needs.length iT,.slice dD x.aS.tolerances.length dF,.string x.host.name,.slice yx x.host.labels.length yA,.int .i64 x.host.cpu,.int .i64 x.host.mem,.int .i64 x.host.slots,.slice yB x.host.aT.length yC]∧F = lF++(mV++(iH++(JV++(JW))))∧I64 x.kind∧x.aS.name.size≤maxLen∧Sl w x.aS.labels gV gW lF∧I64 x.aS.cpu∧I64 x.aS.mem∧I64 x.aS.rank∧Sl w x.aS.needs iR iT mV∧Sl w x.aS.tolerances dD dF iH∧x.host.name.size≤maxLen∧Sl w x.host.labels yx yA JV∧I64 x.host.cpu∧I64 x.host.mem∧I64 x.host.slots∧Sl w x.host.aT yB yC JW:=by
 obtain ⟨_,_,_,_,rfl,rfl,⟨rfl,rfl,hkind⟩,_,_,_,_,rfl,rfl,WT,afd⟩:=h;obtain ⟨gV,gW,lF,iR,iT,mV,dD,dF,iH,rfl,rfl,nY,iE,rF,rG,oZ,je,dN⟩:=dL WT;obtain ⟨yx,yA,JV,yB,yC,JW,rfl,rfl,JX,EZ,NT,NU,Hf,E5⟩:=iy afd;exact ⟨gV,gW,_,iR,iT,_,dD,dF,_,yx,yA,_,yB,yC,_,rfl,S',hkind,nY,iE,rF,rG,oZ,je,dN,JX,EZ,NT,NU,Hf,E5⟩
structure tV where
 code:Int
 at_:Int
 path:ByteArray
instance:Dat tV:=Dat.iso fun x=>(x.code,x.at_,x.path)
def GL (c:Int):Bool:=decide (97≤c)&&decide (c≤122) || decide (65≤c)&&decide (c≤90) || decide (48≤c)&&decide (c≤57)
def agP (c:Int):Bool:=decide (97≤c)&&decide (c≤122)
def agQ (c:Int):Bool:=decide (48≤c)&&decide (c≤57)
def okB (o:ByteArray) (c:UInt8):Bool:=GL c.toNat || o.data.toList.contains c
def GN (o s:ByteArray):Bool:=decide (0 < s.size)&&(GL (s.data.toList.getD 0 0).toNat&&GL (s.data.toList.getD (s.size - 1) 0).toNat)&&s.data.toList.all (okB o)
theorem DF {s:ByteArray} {k:Nat} (h:k < s.size):s.data.toList.getD k 0 = s[k]:=by
 have h':k < s.data.size:=h;rw [List.getD_eq_getElem?_getD,List.getElem?_eq_getElem (by simpa using h')];simp [ByteArray.getElem_eq_getElem_data]
theorem YX {s:ByteArray} {p:UInt8→Bool} (h:∀j (hj:j < s.size),p s[j] = true):s.data.toList.all p = true:=by
 rw [List.all_eq_true];intro x hx;obtain ⟨j,hj,rfl⟩:=List.getElem_of_mem hx;have hj':j < s.size:=by simpa using hj
 have:=h j hj';simpa [ByteArray.getElem_eq_getElem_data] using this
theorem TM {s:ByteArray} {p:UInt8→Bool} {k:Nat} (hk:k < s.size) (h:p s[k] = false):s.data.toList.all p = false:=by
 rw [List.all_eq_false];have hk':k < s.data.size:=hk;refine ⟨s.data.toList[k]'(by simpa using hk'),List.getElem_mem _,?_⟩;simp only [Array.getElem_toList];rw [ByteArray.getElem_eq_getElem_data] at h;simp [h]
theorem X4 {s:ByteArray} {p:UInt8→Bool} {k:Nat} (hlt:k < s.size) (h:∀j (hj:j < s.size),j < k→p s[j] = true) (hp:p s[k] = true):∀j (hj:j < s.size),j < k+1→p s[j] = true:=fun j hj hjk=>by
 rcases Nat.lt_or_ge j k with h1 | h1
 ·exact h j hj h1
 ·obtain rfl:j = k:=by omega
  exact hp
theorem apP (c:UInt8):((c.toNat:Int)).toNat.toUInt8 = c:=by simp
theorem IL (c:Int) (w:World):Calls Tryz.prog 200 #[.int .u8 c] w fun e w'=>e = .returned (.bool (GL c))∧w' = w:=by
 go_enter Tryz.func200,Tryz.ntmps200;exact Zab5
theorem Gm (c:Int) (w:World):Calls Tryz.prog 133 #[.int .u8 c] w fun e w'=>e = .returned (.bool (GL c))∧w' = w:=by
 go_enter Tryz.func133,Tryz.ntmps133;exact Zab5
theorem Q7 (s:ByteArray) (c:Int) (w:World):Calls Tryz.prog 219 #[.string s,.int .u8 c] w fun e w'=>e = .returned (.int .i64 (Lib.indexByte s.data.toList c.toNat.toUInt8))∧w' = w:=by
 go_enter Tryz.func219,Tryz.ntmps219;go_wp2;rw [run_callFunc_extern Tryz.func224 U' U' U' (e:=Extern.BytealgIndexByte.indexByte) U',Lib.run_indexByteString];simp only [Result.andThen];rw [Oper.upon_value];go_wp2;go_ret
 exact ⟨rfl,rfl⟩
theorem aai (s:ByteArray) (c:Int) (w:World):Calls Tryz.prog 202 #[.string s,.int .u8 c] w fun e w'=>e = .returned (.int .i64 (Lib.indexByte s.data.toList c.toNat.toUInt8))∧w' = w:=by
 go_enter Tryz.func202,Tryz.ntmps202;go_wp2_with fail
 refine (Q7 s c _).mono ?_;rintro e w' ⟨rfl,rfl⟩;go_wp2;go_ret
 exact ⟨rfl,rfl⟩
theorem aef (s o:ByteArray) (w:World) (hs:0 < s.size) (hs2:(s.size:Int)≤1048576):Calls Tryz.prog 161 #[.string s,.string o] w fun e w'=>e = .returned (.bool (GN o s))∧w' = w:=by
 go_enter Tryz.func161,Tryz.ntmps161;go_wp2_with fail
 go_loop [9] (fun v=>∃(k:Nat),k≤s.size∧v = .int .i64 k∧Hid (∀j (hj:j < s.size),j < k→okB o s[j] = true)) (fun v=>s.size - (intOf v).toNat)
 case atStart=>exact ⟨0,Nat.zero_le _,rfl,fun j _ hj=>by omega⟩
 case round =>
  obtain ⟨k,hk,rfl,hall⟩:=hrel;by_cases hlt:k < s.size
  ·cases h1:GL (s[k].toNat:Int) with
   | true =>
     have hok:okB o s[k] = true:=(by unfold okB;rw [h1];rfl);have H1:=I' h1;have HN:=I' (X4 hlt hall.out hok);clear h1 hok;go_wp2_with (go_at_call 200;refine (IL (s[k].toNat:Int) _).mono ?_;rw [H1.out];rintro e w2 ⟨rfl,rfl⟩)
     exact ⟨⟨k+1,O',N',HN.out⟩,by simp [intOf];omega⟩
   | false =>
     have hci:=Lib.contains_iff_indexByte o.data.toList s[k];cases h2:o.data.toList.contains s[k] with
     | true =>
       rw [h2] at hci;have hge:0≤Lib.indexByte o.data.toList ((s[k].toNat:Int)).toNat.toUInt8:=(by rw [apP];simpa using hci.symm);have hok:okB o s[k] = true:=(by unfold okB;rw [h2];simp);have H1:=I' h1;have HN:=I' (X4 hlt hall.out hok);clear h1 h2 hci hok;generalize hgi:Lib.indexByte o.data.toList ((s[k].toNat:Int)).toNat.toUInt8 = gi at *;have HGI:=I' hgi;clear hgi;go_wp2_with (first | (go_at_call 200;refine (IL (s[k].toNat:Int) _).mono ?_;rw [H1.out];rintro e w2 ⟨rfl,rfl⟩) | (go_at_call 202;refine (aai o (s[k].toNat:Int) _).mono ?_;rw [HGI.out];rintro e w3 ⟨rfl,rfl⟩))
       exact ⟨⟨k+1,O',N',HN.out⟩,by simp [intOf];omega⟩
     | false =>
       rw [h2] at hci;have hge:Lib.indexByte o.data.toList ((s[k].toNat:Int)).toNat.toUInt8 < 0:=(by rw [apP];simpa using hci.symm);have hok:okB o s[k] = false:=(by unfold okB;rw [h1,h2];rfl);have hfin:GN o s = false:=(by unfold GN;rw [TM hlt hok];simp);have HF:=I' hfin;have H1:=I' h1;clear h1 h2 hci hok hfin;generalize hgi:Lib.indexByte o.data.toList ((s[k].toNat:Int)).toNat.toUInt8 = gi at *;have HGI:=I' hgi;clear hgi;go_wp2_with (first | (go_at_call 200;refine (IL (s[k].toNat:Int) _).mono ?_;rw [H1.out];rintro e w2 ⟨rfl,rfl⟩) | (go_at_call 202;refine (aai o (s[k].toNat:Int) _).mono ?_;rw [HGI.out];rintro e w3 ⟨rfl,rfl⟩))
       go_ret
       exact ⟨by rw [HF.out];rfl,rfl⟩
  ·have hkl:k = s.size:=O';subst hkl;have ha:=YX (p:=okB o) (fun j hj=>hall.out j hj hj);cases h1:GL (s[0].toNat:Int) with
   | false =>
     have hfin:GN o s = false:=(by unfold GN;rw [DF hs,h1];simp);have HF:=I' hfin;have H1:=I' h1;clear h1 hfin;go_wp2_with fail
     refine (IL (s[0].toNat:Int) _).mono ?_;rw [H1.out];rintro e w2 ⟨rfl,rfl⟩;go_wp2;go_ret
     exact ⟨by rw [HF.out];rfl,rfl⟩
   | true =>
     cases h2:GL (s[s.size - 1].toNat:Int)
     all_goals
      have hfin:GN o s = _:=(by unfold GN;rw [ha,DF hs,DF (show s.size - 1 < s.size by omega),h1,h2]);simp only [hs,decide_true,Bool.true_and,Bool.and_true,Bool.and_false] at hfin;have HF:=I' hfin;have H1:=I' h1;have H2:=I' h2;clear h1 h2 hfin;go_wp2_with fail
      refine (IL (s[0].toNat:Int) _).mono ?_;rw [H1.out];rintro e w2 ⟨rfl,rfl⟩;go_wp2_with fail
      refine (IL (s[s.size - 1].toNat:Int) _).mono ?_;rw [H2.out];rintro e w2 ⟨rfl,rfl⟩;go_wp2;go_ret
      exact ⟨by rw [HF.out];rfl,rfl⟩
end Go.Proofs.YtnedlmlpeplnfaaGreat
