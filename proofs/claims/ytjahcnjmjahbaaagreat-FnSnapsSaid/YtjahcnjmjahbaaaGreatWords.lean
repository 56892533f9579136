/- The words of labels and names, of the program and of the reference. No condition. -/
import Derived.Test.YtjahcnjmjahbaaaGreatOrdP
import Derived.Lib.IndexAny
namespace Go.Proofs.YtjahcnjmjahbaaaGreat
open Go.ChangeShapes Go.WideShapes Go.ChangeAt Go.RowKit
set_option linter.unusedVariables false
set_option linter.unusedSimpArgs false
set_option maxHeartbeats 1000000
set_option maxRecDepth 100000
def GL (c:Int):Bool:=decide (97≤c)&&decide (c≤122) || decide (65≤c)&&decide (c≤90) || decide (48≤c)&&decide (c≤57)
def SO (c:Int):Bool:=decide (97≤c)&&decide (c≤122)
def SP (c:Int):Bool:=decide (48≤c)&&decide (c≤57)
def nk (o:ByteArray) (c:UInt8):Bool:=GL c.toNat || o.data.toList.contains c
def GN (o s:ByteArray):Bool:=decide (0 < s.size)&&(GL (s.data.toList.getD 0 0).toNat&&GL (s.data.toList.getD (s.size - 1) 0).toNat)&&s.data.toList.all (nk o)
theorem DF {s:ByteArray} {k:Nat} (h:k < s.size):s.data.toList.getD k 0 = s[k]:=by
 have h':k < s.data.size:=h;rw [List.getD_eq_getElem?_getD,List.getElem?_eq_getElem (by simpa using h')];simp [ByteArray.getElem_eq_getElem_data]
theorem YX {s:ByteArray} {p:UInt8→Bool} (h:∀j (hj:j < s.size),p s[j] = true):s.data.toList.all p = true:=by
 rw [List.all_eq_true];intro x hx;obtain ⟨j,hj,rfl⟩:=List.getElem_of_mem hx;have Z4:j < s.size:=by simpa using hj
 have:=h j Z4;simpa [ByteArray.getElem_eq_getElem_data] using this
theorem TM {s:ByteArray} {p:UInt8→Bool} {k:Nat} (hk:k < s.size) (h:p s[k] = false):s.data.toList.all p = false:=by
 rw [List.all_eq_false];have oY:k < s.data.size:=hk;refine ⟨s.data.toList[k]'(by simpa using oY),List.getElem_mem _,?_⟩;simp only [Array.getElem_toList];rw [ByteArray.getElem_eq_getElem_data] at h;simp [h]
theorem X4 {s:ByteArray} {p:UInt8→Bool} {k:Nat} (ap:k < s.size) (h:∀j (hj:j < s.size),j < k→p s[j] = true) (hp:p s[k] = true):∀j (hj:j < s.size),j < k+1→p s[j] = true:=fun j hj gm=>by
 rcases Nat.lt_or_ge j k with h1 | h1
 ·exact h j hj h1
 ·obtain rfl:j = k:=by omega
  exact hp
theorem Z5 (c:UInt8):((c.toNat:Int)).toNat.toUInt8 = c:=by simp
theorem IL (c:Int) (w:World):Calls Tryz.prog 196 #[.int .u8 c] w fun e w'=>e = .returned (.bool (GL c))∧w' = w:=by
 go_enter Tryz.func196,Tryz.ntmps196;exact IA
theorem Gm (c:Int) (w:World):Calls Tryz.prog 135 #[.int .u8 c] w fun e w'=>e = .returned (.bool (GL c))∧w' = w:=by
 go_enter Tryz.func135,Tryz.ntmps135;exact IA
theorem Q7 (s:ByteArray) (c:Int) (w:World):Calls Tryz.prog 219 #[.string s,.int .u8 c] w fun e w'=>e = .returned (.int .i64 (Lib.indexByte s.data.toList c.toNat.toUInt8))∧w' = w:=by
 go_enter Tryz.func219,Tryz.ntmps219;go_wp2;rw [run_callFunc_extern Tryz.func232 U' U' U' (e:=Extern.BytealgIndexByte.indexByte) U',Lib.run_indexByteString];simp only [Result.andThen];rw [Oper.upon_value];go_wp2;go_ret
 exact ⟨rfl,rfl⟩
theorem Z6 (s:ByteArray) (c:Int) (w:World):Calls Tryz.prog 198 #[.string s,.int .u8 c] w fun e w'=>e = .returned (.int .i64 (Lib.indexByte s.data.toList c.toNat.toUInt8))∧w' = w:=by
 go_enter Tryz.func198,Tryz.ntmps198;go_wp2_with fail
 refine (Q7 s c _).mono ?_;rintro e w' ⟨rfl,rfl⟩;go_wp2;go_ret
 exact ⟨rfl,rfl⟩
theorem Z9 (s o:ByteArray) (w:World) (hs:0 < s.size) (cE:(s.size:Int)≤1048576):Calls Tryz.prog 167 #[.string s,.string o] w fun e w'=>e = .returned (.bool (GN o s))∧w' = w:=by
 go_enter Tryz.func167,Tryz.ntmps167;go_wp2_with fail
 go_loop [9] (fun v=>∃(k:Nat),k≤s.size∧v = .int .i64 k∧Hid (∀j (hj:j < s.size),j < k→nk o s[j] = true)) (fun v=>s.size - (intOf v).toNat)
 case atStart=>exact ⟨0,Nat.zero_le _,rfl,fun j _ hj=>by omega⟩
 case round =>
  obtain ⟨k,hk,rfl,hall⟩:=hrel;by_cases ap:k < s.size
  ·cases h1:GL (s[k].toNat:Int) with
   | true =>
     have gd:nk o s[k] = true:=(by unfold nk;rw [h1];rfl);have H1:=I h1;have HN:=I (X4 ap hall.out gd);clear h1 gd;go_wp2_with (go_at_call 196;refine (IL (s[k].toNat:Int) _).mono ?_;rw [H1.out];rintro e w2 ⟨rfl,rfl⟩)
     exact ⟨⟨k+1,J,N',HN.out⟩,by simp [intOf];omega⟩
   | false =>
     have gD:=Lib.contains_iff_indexByte o.data.toList s[k];cases h2:o.data.toList.contains s[k] with
     | true =>
       rw [h2] at gD;have lA:0≤Lib.indexByte o.data.toList ((s[k].toNat:Int)).toNat.toUInt8:=(by rw [Z5];simpa using gD.symm);have gd:nk o s[k] = true:=(by unfold nk;rw [h2];simp);have H1:=I h1;have HN:=I (X4 ap hall.out gd);clear h1 h2 gD gd;generalize hgi:Lib.indexByte o.data.toList ((s[k].toNat:Int)).toNat.toUInt8 = gi at *;have SQ:=I hgi;clear hgi;go_wp2_with (first | (go_at_call 196;refine (IL (s[k].toNat:Int) _).mono ?_;rw [H1.out];rintro e w2 ⟨rfl,rfl⟩) | (go_at_call 198;refine (Z6 o (s[k].toNat:Int) _).mono ?_;rw [SQ.out];rintro e w3 ⟨rfl,rfl⟩))
       exact ⟨⟨k+1,J,N',HN.out⟩,by simp [intOf];omega⟩
     | false =>
       rw [h2] at gD;have lA:Lib.indexByte o.data.toList ((s[k].toNat:Int)).toNat.toUInt8 < 0:=(by rw [Z5];simpa using gD.symm);have gd:nk o s[k] = false:=(by unfold nk;rw [h1,h2];rfl);have bm:GN o s = false:=(by unfold GN;rw [TM ap gd];simp);have HF:=I bm;have H1:=I h1;clear h1 h2 gD gd bm;generalize hgi:Lib.indexByte o.data.toList ((s[k].toNat:Int)).toNat.toUInt8 = gi at *;have SQ:=I hgi;clear hgi;go_wp2_with (first | (go_at_call 196;refine (IL (s[k].toNat:Int) _).mono ?_;rw [H1.out];rintro e w2 ⟨rfl,rfl⟩) | (go_at_call 198;refine (Z6 o (s[k].toNat:Int) _).mono ?_;rw [SQ.out];rintro e w3 ⟨rfl,rfl⟩))
       go_ret
       exact ⟨by rw [HF.out];rfl,rfl⟩
  ·have bx:k = s.size:=J;subst bx;have ha:=YX (p:=nk o) (fun j hj=>hall.out j hj hj);cases h1:GL (s[0].toNat:Int) with
   | false =>
     have bm:GN o s = false:=(by unfold GN;rw [DF hs,h1];simp);have HF:=I bm;have H1:=I h1;clear h1 bm;go_wp2_with fail
     refine (IL (s[0].toNat:Int) _).mono ?_;rw [H1.out];rintro e w2 ⟨rfl,rfl⟩;go_wp2;go_ret
     exact ⟨by rw [HF.out];rfl,rfl⟩
   | true =>
     cases h2:GL (s[s.size - 1].toNat:Int)
     all_goals
      have bm:GN o s = _:=(by unfold GN;rw [ha,DF hs,DF (show s.size - 1 < s.size by omega),h1,h2]);simp only [hs,decide_true,Bool.true_and,Bool.and_true,Bool.and_false] at bm;have HF:=I bm;have H1:=I h1;have H2:=I h2;clear h1 h2 bm;go_wp2_with fail
      refine (IL (s[0].toNat:Int) _).mono ?_;rw [H1.out];rintro e w2 ⟨rfl,rfl⟩;go_wp2_with fail
      refine (IL (s[s.size - 1].toNat:Int) _).mono ?_;rw [H2.out];rintro e w2 ⟨rfl,rfl⟩;go_wp2;go_ret
      exact ⟨by rw [HF.out];rfl,rfl⟩
theorem vO {w:World} {x:ao} {cs:List Value} {F:List Nat} (h:rd w x cs F):cs = [.string x.key,.string x.value]∧F = []∧x.key.size≤maxLen∧x.value.size≤maxLen:=by
 obtain ⟨_,_,_,_,rfl,rfl,⟨rfl,rfl,ca⟩,⟨rfl,rfl,kP⟩⟩:=h;exact ⟨rfl,S',ca,kP⟩
theorem Ss (w:World) (x:ao) (ca:x.key.size≤maxLen) (kP:x.value.size≤maxLen):rd w x [.string x.key,.string x.value] []:=⟨_,_,_,_,rfl,rfl,⟨rfl,rfl,ca⟩,⟨rfl,rfl,kP⟩⟩
structure ba where
 key:ByteArray
 op:Int
 values:List ByteArray
instance:bd ba:=bd.oc fun x=>(x.key,x.op,x.values)
theorem og {w:World} {x:ba} {cs:List Value} {F:List Nat} (h:rd w x cs F):∃(jy:Option Addr) (ji:Nat) (Bo:List Nat),cs = [.string x.key,.int .i64 x.op,.slice jy x.values.length ji]∧F = Bo∧x.key.size≤maxLen∧bi x.op∧Sl w x.values jy ji Bo:=by
 obtain ⟨_,_,_,_,rfl,rfl,⟨rfl,rfl,ca⟩,_,_,_,_,rfl,rfl,⟨rfl,rfl,fj⟩,kV⟩:=h;obtain ⟨jy,ji,rfl,kV⟩:=jB kV;exact ⟨jy,ji,_,rfl,S',ca,fj,kV⟩
structure iU where
 key:ByteArray
 value:ByteArray
 al:Int
instance:bd iU:=bd.oc fun x=>(x.key,x.value,x.al)
theorem oK {w:World} {x:iU} {cs:List Value} {F:List Nat} (h:rd w x cs F):cs = [.string x.key,.string x.value,.int .i64 x.al]∧F = []∧x.key.size≤maxLen∧x.value.size≤maxLen∧bi x.al:=by
 obtain ⟨_,_,_,_,rfl,rfl,⟨rfl,rfl,ca⟩,_,_,_,_,rfl,rfl,⟨rfl,rfl,kP⟩,⟨rfl,rfl,lD⟩⟩:=h;exact ⟨rfl,S',ca,kP,lD⟩
theorem Q8 (w:World) (x:iU) (ca:x.key.size≤maxLen) (kP:x.value.size≤maxLen) (lD:bi x.al):rd w x [.string x.key,.string x.value,.int .i64 x.al] []:=⟨_,_,_,_,rfl,rfl,⟨rfl,rfl,ca⟩,_,_,_,_,rfl,rfl,⟨rfl,rfl,kP⟩,⟨rfl,rfl,lD⟩⟩
structure bH where
 key:ByteArray
 equal:Bool
 value:ByteArray
 al:Int
instance:bd bH:=bd.oc fun x=>(x.key,x.equal,x.value,x.al)
theorem jv {w:World} {x:bH} {cs:List Value} {F:List Nat} (h:rd w x cs F):cs = [.string x.key,.bool x.equal,.string x.value,.int .i64 x.al]∧F = []∧x.key.size≤maxLen∧x.value.size≤maxLen∧bi x.al:=by
 obtain ⟨_,_,_,_,rfl,rfl,⟨rfl,rfl,ca⟩,_,_,_,_,rfl,rfl,⟨rfl,rfl⟩,_,_,_,_,rfl,rfl,⟨rfl,rfl,kP⟩,⟨rfl,rfl,lD⟩⟩:=h;exact ⟨rfl,S',ca,kP,lD⟩
theorem Ov (w:World) (x:bH) (ca:x.key.size≤maxLen) (kP:x.value.size≤maxLen) (lD:bi x.al):rd w x [.string x.key,.bool x.equal,.string x.value,.int .i64 x.al] []:=⟨_,_,_,_,rfl,rfl,⟨rfl,rfl,ca⟩,_,_,_,_,rfl,rfl,⟨rfl,rfl⟩,_,_,_,_,rfl,rfl,⟨rfl,rfl,kP⟩,⟨rfl,rfl,lD⟩⟩
structure nI where
 name:ByteArray
 labels:List ao
 ax:Int
 mem:Int
 aD:Int
 ag:List ba
 ae:List bH
instance:bd nI:=bd.oc fun x=>(x.name,x.labels,x.ax,x.mem,x.aD,x.ag,x.ae)
theorem dL {w:World} {x:nI} {cs:List Value} {F:List Nat} (h:rd w x cs F):∃(gu:Option Addr) (gy:Nat) (jw:List Nat) (oh:Option Addr) (nT:Nat) (wG:List Nat) (fA:Option Addr) (fB:Nat) (jY:List Nat),cs = [.string x.name,.slice gu x.labels.length gy,.int .i64 x.ax,.int .i64 x.mem,.int .i64 x.aD,.slice oh x.ag.length nT,.slice fA x.ae.length fB]∧F = jw++(wG++(jY))∧x.name.size≤maxLen∧Sl w x.labels gu gy jw∧bi x.ax∧bi x.mem∧bi x.aD∧Sl w x.ag oh nT wG∧Sl w x.ae fA fB jY:=by
 obtain ⟨_,_,_,_,rfl,rfl,⟨rfl,rfl,hname⟩,_,_,_,_,rfl,rfl,dO,_,_,_,_,rfl,rfl,⟨rfl,rfl,vg⟩,_,_,_,_,rfl,rfl,⟨rfl,rfl,cb⟩,_,_,_,_,rfl,rfl,⟨rfl,rfl,BJ⟩,_,_,_,_,rfl,rfl,mX,eG⟩:=h;obtain ⟨gu,gy,rfl,dO⟩:=jB dO;obtain ⟨oh,nT,rfl,mX⟩:=jB mX;obtain ⟨fA,fB,rfl,eG⟩:=jB eG;exact ⟨gu,gy,_,oh,nT,_,fA,fB,_,rfl,S',hname,dO,vg,cb,BJ,mX,eG⟩
structure az where
 name:ByteArray
 labels:List ao
 ax:Int
 mem:Int
 ar:Int
 aT:List iU
instance:bd az:=bd.oc fun x=>(x.name,x.labels,x.ax,x.mem,x.ar,x.aT)
theorem iy {w:World} {x:az} {cs:List Value} {F:List Nat} (h:rd w x cs F):∃(gu:Option Addr) (gy:Nat) (jw:List Nat) (kJ:Option Addr) (kK:Nat) (qU:List Nat),cs = [.string x.name,.slice gu x.labels.length gy,.int .i64 x.ax,.int .i64 x.mem,.int .i64 x.ar,.slice kJ x.aT.length kK]∧F = jw++(qU)∧x.name.size≤maxLen∧Sl w x.labels gu gy jw∧bi x.ax∧bi x.mem∧bi x.ar∧Sl w x.aT kJ kK qU:=by
 obtain ⟨_,_,_,_,rfl,rfl,⟨rfl,rfl,hname⟩,_,_,_,_,rfl,rfl,dO,_,_,_,_,rfl,rfl,⟨rfl,rfl,vg⟩,_,_,_,_,rfl,rfl,⟨rfl,rfl,cb⟩,_,_,_,_,rfl,rfl,⟨rfl,rfl,uI⟩,jq⟩:=h;obtain ⟨gu,gy,rfl,dO⟩:=jB dO;obtain ⟨kJ,kK,rfl,jq⟩:=jB jq;exact ⟨gu,gy,_,kJ,kK,_,rfl,S',hname,dO,vg,cb,uI,jq⟩
structure rZ where
 pack:Int
 af:Int
 an:Int
instance:bd rZ:=bd.oc fun x=>(x.pack,x.af,x.an)
theorem mg {w:World} {x:rZ} {cs:List Value} {F:List Nat} (h:rd w x cs F):cs = [.int .i64 x.pack,.int .i64 x.af,.int .i64 x.an]∧F = []∧bi x.pack∧bi x.af∧bi x.an:=by
 obtain ⟨_,_,_,_,rfl,rfl,⟨rfl,rfl,Su⟩,_,_,_,_,rfl,rfl,⟨rfl,rfl,U0⟩,⟨rfl,rfl,Sw⟩⟩:=h;exact ⟨rfl,S',Su,U0,Sw⟩
theorem Zj (w:World) (x:rZ) (Su:bi x.pack) (U0:bi x.af) (Sw:bi x.an):rd w x [.int .i64 x.pack,.int .i64 x.af,.int .i64 x.an] []:=⟨_,_,_,_,rfl,rfl,⟨rfl,rfl,Su⟩,_,_,_,_,rfl,rfl,⟨rfl,rfl,U0⟩,⟨rfl,rfl,Sw⟩⟩
structure ai where
 aS:nI
 on:ByteArray
 seq:Int
instance:bd ai:=bd.oc fun x=>(x.aS,x.on,x.seq)
theorem kE {w:World} {x:ai} {cs:List Value} {F:List Nat} (h:rd w x cs F):∃(gV:Option Addr) (gW:Nat) (lF:List Nat) (iR:Option Addr) (iT:Nat) (mV:List Nat) (dD:Option Addr) (dF:Nat) (iH:List Nat),cs = [.string x.aS.name,.slice gV x.aS.labels.length gW,.int .i64 x.aS.ax,.int .i64 x.aS.mem,.int .i64 x.aS.aD,.slice iR x.aS.ag.length iT,.slice dD x.aS.ae.length dF,.string x.on,.int .i64 x.seq]∧F = lF++(mV++(iH))∧x.aS.name.size≤maxLen∧Sl w x.aS.labels gV gW lF∧bi x.aS.ax∧bi x.aS.mem∧bi x.aS.aD∧Sl w x.aS.ag iR iT mV∧Sl w x.aS.ae dD dF iH∧x.on.size≤maxLen∧bi x.seq:=by
 obtain ⟨_,_,_,_,rfl,rfl,WT,_,_,_,_,rfl,rfl,⟨rfl,rfl,eO⟩,⟨rfl,rfl,hseq⟩⟩:=h;obtain ⟨gV,gW,lF,iR,iT,mV,dD,dF,iH,rfl,rfl,nY,iE,rF,rG,oZ,je,dN⟩:=dL WT;exact ⟨gV,gW,_,iR,iT,_,dD,dF,_,rfl,S',nY,iE,rF,rG,oZ,je,dN,eO,hseq⟩
structure aU where
 Z:List az
 O:List ai
 next:Int
 weights:rZ
instance:bd aU:=bd.oc fun x=>(x.Z,x.O,x.next,x.weights)
theorem aO {w:World} {x:aU} {cs:List Value} {F:List Nat} (h:rd w x cs F):∃(bG:Option Addr) (bD:Nat) (fQ:List Nat) (dn:Option Addr) (bW:Nat) (jg:List Nat),cs = [.slice bG x.Z.length bD,.slice dn x.O.length bW,.int .i64 x.next,.int .i64 x.weights.pack,.int .i64 x.weights.af,.int .i64 x.weights.an]∧F = fQ++(jg)∧Sl w x.Z bG bD fQ∧Sl w x.O dn bW jg∧bi x.next∧bi x.weights.pack∧bi x.weights.af∧bi x.weights.an:=by
 obtain ⟨_,_,_,_,rfl,rfl,bQ,_,_,_,_,rfl,rfl,dM,_,_,_,_,rfl,rfl,⟨rfl,rfl,hnext⟩,xM⟩:=h;obtain ⟨bG,bD,rfl,bQ⟩:=jB bQ;obtain ⟨dn,bW,rfl,dM⟩:=jB dM;obtain ⟨rfl,rfl,aV,aP,aW⟩:=mg xM;exact ⟨bG,bD,_,dn,bW,_,rfl,S',bQ,dM,hnext,aV,aP,aW⟩
structure cB where
 kind:Int
 aS:nI
 bt:az
instance:bd cB:=bd.oc fun x=>(x.kind,x.aS,x.bt)
theorem NS {w:World} {x:cB} {cs:List Value} {F:List Nat} (h:rd w x cs F):∃(gV:Option Addr) (gW:Nat) (lF:List Nat) (iR:Option Addr) (iT:Nat) (mV:List Nat) (dD:Option Addr) (dF:Nat) (iH:List Nat) (yx:Option Addr) (yA:Nat) (JV:List Nat) (yB:Option Addr) (yC:Nat) (JW:List Nat),cs = [.int .i64 x.kind,.string x.aS.name,.slice gV x.aS.labels.length gW,.int .i64 x.aS.ax,.int .i64 x.aS.mem,.int .i64 x.aS.aD,.slice iR x.aS.ag.length iT,.slice dD x.aS.ae.length dF,.string x.bt.name,.slice yx x.bt.labels.length yA,.int .i64 x.bt.ax,.int .i64 x.bt.mem,.int .i64 x.bt.ar,.slice yB x.bt.aT.length yC]∧F = lF++(mV++(iH++(JV++(JW))))∧bi x.kind∧x.aS.name.size≤maxLen∧Sl w x.aS.labels gV gW lF∧bi x.aS.ax∧bi x.aS.mem∧bi x.aS.aD∧Sl w x.aS.ag iR iT mV∧Sl w x.aS.ae dD dF iH∧x.bt.name.size≤maxLen∧Sl w x.bt.labels yx yA JV∧bi x.bt.ax∧bi x.bt.mem∧bi x.bt.ar∧Sl w x.bt.aT yB yC JW:=by
 obtain ⟨_,_,_,_,rfl,rfl,⟨rfl,rfl,hkind⟩,_,_,_,_,rfl,rfl,WT,afd⟩:=h;obtain ⟨gV,gW,lF,iR,iT,mV,dD,dF,iH,rfl,rfl,nY,iE,rF,rG,oZ,je,dN⟩:=dL WT;obtain ⟨yx,yA,JV,yB,yC,JW,rfl,rfl,JX,EZ,NT,NU,Hf,E5⟩:=iy afd;exact ⟨gV,gW,_,iR,iT,_,dD,dF,_,yx,yA,_,yB,yC,_,rfl,S',hkind,nY,iE,rF,rG,oZ,je,dN,JX,EZ,NT,NU,Hf,E5⟩
structure tV where
 Sx:Int
 gj:Int
 path:ByteArray
instance:bd tV:=bd.oc fun x=>(x.Sx,x.gj,x.path)
def pI (c:UInt8):Bool:=SO c.toNat || SP c.toNat || decide ((c.toNat:Int) = 45)
def Qs (s:ByteArray):Bool:=decide (0 < s.size∧(s.size:Int)≤20)&&(!decide (((s.data.toList.getD 0 0).toNat:Int) = 45)&&!decide (((s.data.toList.getD (s.size - 1) 0).toNat:Int) = 45))&&s.data.toList.all pI
theorem aiW (c:UInt8):(pI c = false∧((c.toNat:Int) < 45∨(45 < (c.toNat:Int)∧(c.toNat:Int) < 48)∨(57 < (c.toNat:Int)∧(c.toNat:Int) < 65)∨(65≤(c.toNat:Int)∧(c.toNat:Int)≤90)∨(90 < (c.toNat:Int)∧(c.toNat:Int) < 97)∨122 < (c.toNat:Int))) ∨
 (pI c = true∧((c.toNat:Int) = 45∨(48≤(c.toNat:Int)∧(c.toNat:Int)≤57)∨(97≤(c.toNat:Int)∧(c.toNat:Int)≤122))):=by
 cases h:pI c
 ·left;refine ⟨rfl,?_⟩;unfold pI SO SP at h;simp at h;omega
 ·right;refine ⟨rfl,?_⟩;unfold pI SO SP at h;simp at h;omega
theorem amv {s:ByteArray} (hs:0 < s.size) (hl:(s.size:Int)≤20) (h0:(s[0].toNat:Int)≠45) (h1:(s[s.size - 1].toNat:Int)≠45) (ha:s.data.toList.all pI = true):Qs s = true:=by
 unfold Qs;rw [DF hs,DF (show s.size - 1 < s.size by omega),ha];simp [hs,hl,h0,h1]
theorem aiX {s:ByteArray} (h:¬(0 < s.size∧(s.size:Int)≤20)):Qs s = false:=by unfold Qs;simp only [h,decide_false,Bool.false_and]
theorem adR {s:ByteArray} (hs:0 < s.size) (h:(s[0].toNat:Int) = 45):Qs s = false:=by unfold Qs;rw [DF hs];simp [h]
theorem agR {s:ByteArray} (hs:0 < s.size) (h:(s[s.size - 1].toNat:Int) = 45):Qs s = false:=by unfold Qs;rw [DF (show s.size - 1 < s.size by omega)];simp [h]
theorem agS {s:ByteArray} {k:Nat} (hk:k < s.size) (h:pI s[k] = false):Qs s = false:=by unfold Qs;rw [TM hk h];simp
theorem Ro (s:ByteArray) (w:World) (cE:(s.size:Int)≤1048576):Calls Tryz.prog 75 #[.string s] w fun e w'=>e = .returned (.bool (Qs s))∧Below w.heap.size w w':=by
 go_enter Tryz.func75,Tryz.ntmps75;go_wp2_with fail
 go_loop [7] (fun v=>∃(k:Nat),k≤s.size∧v = .int .i64 k∧Hid (∀j (hj:j < s.size),j < k→pI s[j] = true)) (fun v=>s.size - (intOf v).toNat)
 case atStart=>exact ⟨0,Nat.zero_le _,rfl,fun j _ hj=>by omega⟩
 case round =>
  obtain ⟨k,hk,rfl,hall⟩:=hrel;by_cases ap:k < s.size
  ·rcases aiW s[k] with ⟨hb,hr⟩ | ⟨hb,hr⟩
   ·exact Ik
   ·have HN:=I (X4 ap hall.out hb);clear hb;rcases hr with hr | ⟨hr,fc⟩ | ⟨hr,fc⟩
    all_goals
     go_wp2;exact ⟨⟨k+1,J,N',HN.out⟩,by simp [intOf];omega⟩
  ·have bx:k = s.size:=J;subst bx;have ha:=I (YX (p:=pI) (fun j hj=>hall.out j hj hj));by_cases rm:0 < s.size∧(s.size:Int)≤20
   ·obtain ⟨hs,hl⟩:=rm;have hz:((s.size:Int) == 0) = false:=(by rw [beq_eq_false_iff_ne];omega);by_cases h0:(s[0].toNat:Int) = 45
    ·have HF:=I (adR hs h0);skip
     exact ej
    ·by_cases h1:(s[s.size - 1].toNat:Int) = 45
     ·have HF:=I (agR hs h1);skip
      exact ej
     ·have h0':((s[0].toNat:Int) != 45) = true:=(by simp [h0]);have SX:((s[s.size - 1].toNat:Int) != 45) = true:=(by simp [h1]);have SZ:((s[0].toNat:Int) == 45) = false:=(by simp [h0]);have Ta:((s[s.size - 1].toNat:Int) == 45) = false:=(by simp [h1]);have HF:=I (amv hs hl h0 h1 ha.out);exact ej
   ·have HF:=I (aiX rm);have Tb:¬((1:Int)≤s.size∧(s.size:Int)≤20):=J;by_cases hs:0 < s.size
    ·have hz:((s.size:Int) == 0) = false:=(by rw [beq_eq_false_iff_ne];omega);have hgt:(20:Int) < s.size:=J;skip
     exact ej
    ·have hZ:(s.size:Int) = 0:=J;skip
     exact ej
theorem Rq (s:ByteArray) (w:World) (cE:(s.size:Int)≤1048576):Calls Tryz.prog 89 #[.string s] w fun e w'=>e = .returned (.bool (Qs s))∧Below w.heap.size w w':=by
 by_cases rm:0 < s.size∧(s.size:Int)≤20
 ·obtain ⟨hs,hl⟩:=rm;have hz:((s.size:Int) == 0) = false:=by rw [beq_eq_false_iff_ne];omega
  by_cases h0:(s[0].toNat:Int) = 45
  ·have HF:=I (adR hs h0);go_enter Tryz.func89,Tryz.ntmps89;exact ej
  ·by_cases h1:(s[s.size - 1].toNat:Int) = 45
   ·have HF:=I (agR hs h1);go_enter Tryz.func89,Tryz.ntmps89;exact ej
   ·have h0':((s[0].toNat:Int) != 45) = true:=(by simp [h0]);have SX:((s[s.size - 1].toNat:Int) != 45) = true:=(by simp [h1]);have SZ:((s[0].toNat:Int) == 45) = false:=(by simp [h0]);have Ta:((s[s.size - 1].toNat:Int) == 45) = false:=(by simp [h1]);go_enter Tryz.func89,Tryz.ntmps89;go_wp2;go_loopw [3] (fun v wr=>∃(k:Nat),k≤s.size∧v = .int .i64 k∧Hid (∀j (hj:j < s.size),j < k→pI s[j] = true)∧Below w.heap.size w wr) (fun v _=>s.size - (intOf v).toNat)
    case atStart=>exact ⟨0,Nat.zero_le _,rfl,(fun j _ hj=>by omega),aj _⟩
    case round =>
     obtain ⟨k,hk,rfl,hall,aE⟩:=hrel;by_cases ap:k < s.size
     ·rcases aiW s[k] with ⟨hb,hr⟩ | ⟨hb,hr⟩
      ·exact Ik
      ·have HN:=I (X4 ap hall.out hb);clear hb;rcases hr with hr | ⟨hr,fc⟩ | ⟨hr,fc⟩
       all_goals
        go_wp2;exact ⟨⟨k+1,J,N',HN.out,aE⟩,by simp [intOf];omega⟩
     ·have bx:k = s.size:=J;subst bx;have ha:=I (YX (p:=pI) (fun j hj=>hall.out j hj hj));have HF:=I (amv hs hl h0 h1 ha.out);exact ej
 ·have HF:=I (aiX rm);have Tb:¬((1:Int)≤s.size∧(s.size:Int)≤20):=by omega
  by_cases hs:0 < s.size
  ·have hz:((s.size:Int) == 0) = false:=(by rw [beq_eq_false_iff_ne];omega);have hgt:(20:Int) < s.size:=J;go_enter Tryz.func89,Tryz.ntmps89;exact ej
  ·have hZ:(s.size:Int) = 0:=J;go_enter Tryz.func89,Tryz.ntmps89;exact ej
theorem Ce {a b:ByteArray} (h:(a.toList == b.toList) = true):a = b:=by
 have h1:a.toList = b.toList:=by simpa using h
 have h2:a.data.toList = b.data.toList:=by rw [← ByteArray.toList_eq,← ByteArray.toList_eq];exact h1
 cases a;cases b;simp_all
def kn (a b:ByteArray):Bool:=a.toList == b.toList
theorem PW (a b:ByteArray):kn a b = true↔a = b:=⟨Ce,fun h=>by subst h;simp [kn]⟩
def same {α:Type} (eq:α→α→Bool):List α→List α→Bool
 | [],[]=>true
 | a :: l,b :: m=>eq a b&&same eq l m
 | _,_=>false
theorem qN {α:Type} {eq:α→α→Bool} : ∀{l m:List α},l.length≠m.length→same eq l m = false
 | [],[],h=>absurd rfl h
 | [],_ :: _,_=>rfl
 | _ :: _,[],_=>rfl
 | a :: l,b :: m,h=>by simp only [same];rw [qN (l:=l) (m:=m) Pe];simp
theorem iC {α:Type} {eq:α→α→Bool} {l m:List α} {k:Nat} (h:k < l.length) (h':k < m.length):same eq (l.take (k+1)) (m.take (k+1)) = (same eq (l.take k) (m.take k)&&eq l[k] m[k]):=by
 induction k generalizing l m with
 | zero =>
   cases l with
   | nil=>simp at h
   | cons a l =>
     cases m with
     | nil=>simp at h'
     | cons b m=>simp [same]
 | succ k ih =>
   cases l with
   | nil=>simp at h
   | cons a l =>
     cases m with
     | nil=>simp at h'
     | cons b m =>simp only [List.take_succ_cons,same];rw [ih Pe (by simpa using h'),Bool.and_assoc];simp
theorem nP {α:Type} {eq:α→α→Bool} {l m:List α} (k:Nat) (h:same eq (l.take k) (m.take k) = false) (hl:l.length = m.length):same eq l m = false:=by
 induction k generalizing l m with
 | zero=>simp [same] at h
 | succ k ih =>cases l <;> cases m <;> simp_all [same]
theorem b4 {α:Type} {eq:α→α→Bool} (h:∀a b,eq a b = true↔a = b):∀(l m:List α),same eq l m = true↔l = m
 | [],[]=>by simp [same]
 | [],_ :: _=>by simp [same]
 | _ :: _,[]=>by simp [same]
 | a :: l,b :: m=>by simp [same,h,b4 h l m]
def vZ (a b:ao):Bool:=(a.key.toList == b.key.toList)&&(a.value.toList == b.value.toList)
theorem J8 (a b:ao):vZ a b = true↔a = b:=by
 constructor
 ·intro h;simp only [vZ,Bool.and_eq_true] at h;have h0:=Ce h.1;have h1:=Ce h.2;cases a;cases b
  simp only at h0 h1;subst h0 h1;rfl
 ·rintro rfl;simp [vZ, *]
def yI (a b:ba):Bool:=(a.key.toList == b.key.toList)&&(a.op == b.op)&&same kn a.values b.values
theorem SW (a b:ba):yI a b = true↔a = b:=by
 constructor
 ·intro h;simp only [yI,Bool.and_eq_true] at h;have h0:=Ce h.1.1;have h1:=eq_of_beq h.1.2;have h2:=(b4 PW _ _).1 h.2;cases a;cases b
  simp only at h0 h1 h2;subst h0 h1 h2;rfl
 ·rintro rfl;have g2:=(b4 PW a.values a.values).2 rfl;simp [yI, *]
def Aq (a b:iU):Bool:=(a.key.toList == b.key.toList)&&(a.value.toList == b.value.toList)&&(a.al == b.al)
theorem Xx (a b:iU):Aq a b = true↔a = b:=by
 constructor
 ·intro h;simp only [Aq,Bool.and_eq_true] at h;have h0:=Ce h.1.1;have h1:=Ce h.1.2;exact Ac
 ·rintro rfl;simp [Aq, *]
def oP (a b:bH):Bool:=(a.key.toList == b.key.toList)&&(a.equal == b.equal)&&(a.value.toList == b.value.toList)&&(a.al == b.al)
theorem WC (a b:bH):oP a b = true↔a = b:=by
 constructor
 ·intro h;simp only [oP,Bool.and_eq_true] at h;have h0:=Ce h.1.1.1;have h1:=eq_of_beq h.1.1.2;have h2:=Ce h.1.2;have h3:=eq_of_beq h.2;cases a;cases b
  simp only at h0 h1 h2 h3;subst h0 h1 h2 h3;rfl
 ·rintro rfl;simp [oP, *]
def vF (a b:nI):Bool:=(a.name.toList == b.name.toList)&&same vZ a.labels b.labels&&(a.ax == b.ax)&&(a.mem == b.mem)&&(a.aD == b.aD)&&same yI a.ag b.ag&&same oP a.ae b.ae
theorem yh (a b:nI):vF a b = true↔a = b:=by
 constructor
 ·intro h;simp only [vF,Bool.and_eq_true] at h;have h0:=Ce h.1.1.1.1.1.1;have h1:=(b4 J8 _ _).1 h.1.1.1.1.1.2;have h2:=eq_of_beq h.1.1.1.1.2;have h3:=eq_of_beq h.1.1.1.2;have h4:=eq_of_beq h.1.1.2;have h5:=(b4 SW _ _).1 h.1.2;have h6:=(b4 WC _ _).1 h.2;cases a;cases b
  simp only at h0 h1 h2 h3 h4 h5 h6;subst h0 h1 h2 h3 h4 h5 h6;rfl
 ·rintro rfl;have g1:=(b4 J8 a.labels a.labels).2 rfl;have g5:=(b4 SW a.ag a.ag).2 rfl;have g6:=(b4 WC a.ae a.ae).2 rfl;simp [vF, *]
def ou (a b:az):Bool:=(a.name.toList == b.name.toList)&&same vZ a.labels b.labels&&(a.ax == b.ax)&&(a.mem == b.mem)&&(a.ar == b.ar)&&same Aq a.aT b.aT
theorem LW (a b:az):ou a b = true↔a = b:=by
 constructor
 ·intro h;simp only [ou,Bool.and_eq_true] at h;have h0:=Ce h.1.1.1.1.1;have h1:=(b4 J8 _ _).1 h.1.1.1.1.2;have h2:=eq_of_beq h.1.1.1.2;have h3:=eq_of_beq h.1.1.2;have h4:=eq_of_beq h.1.2;have h5:=(b4 Xx _ _).1 h.2;cases a;cases b
  simp only at h0 h1 h2 h3 h4 h5;subst h0 h1 h2 h3 h4 h5;rfl
 ·rintro rfl;have g1:=(b4 J8 a.labels a.labels).2 rfl;have g5:=(b4 Xx a.aT a.aT).2 rfl;simp [ou, *]
def vN (a b:rZ):Bool:=(a.pack == b.pack)&&(a.af == b.af)&&(a.an == b.an)
theorem Zq (a b:rZ):vN a b = true↔a = b:=by
 constructor
 ·intro h;simp only [vN,Bool.and_eq_true] at h;have h0:=eq_of_beq h.1.1;have h1:=eq_of_beq h.1.2;exact Ac
 ·rintro rfl;simp [vN, *]
def lX (a b:ai):Bool:=vF a.aS b.aS&&(a.on.toList == b.on.toList)&&(a.seq == b.seq)
theorem aby (a b:ai):lX a b = true↔a = b:=by
 constructor
 ·intro h;simp only [lX,Bool.and_eq_true] at h;have h0:=(yh _ _).1 h.1.1;have h1:=Ce h.1.2;exact Ac
 ·rintro rfl;have g0:=(yh a.aS a.aS).2 rfl;simp [lX, *]
def lT (a b:aU):Bool:=same ou a.Z b.Z&&same lX a.O b.O&&(a.next == b.next)&&vN a.weights b.weights
theorem jI (a b:aU):lT a b = true↔a = b:=by
 constructor
 ·intro h;simp only [lT,Bool.and_eq_true] at h;have h0:=(b4 LW _ _).1 h.1.1.1;have h1:=(b4 aby _ _).1 h.1.1.2;have h2:=eq_of_beq h.1.2;have h3:=(Zq _ _).1 h.2;cases a;cases b
  simp only at h0 h1 h2 h3;subst h0 h1 h2 h3;rfl
 ·rintro rfl;have g0:=(b4 LW a.Z a.Z).2 rfl;have g1:=(b4 aby a.O a.O).2 rfl;have g3:=(Zq a.weights a.weights).2 rfl;simp [lT, *]
end Go.Proofs.YtjahcnjmjahbaaaGreat
