/- slices.IndexFunc of the closure of Untolerated. No condition. -/
import Derived.Test.YtdegaofigemegaaGreatWordsS
import Derived.Test.YtdegaofigemegaaGreatAt
namespace Go.Proofs.YtdegaofigemegaaGreat
open Go.ChangeShapes Go.WideShapes Go.ChangeAt Go.RowKit
set_option linter.unusedVariables false
set_option linter.unusedSimpArgs false
set_option maxHeartbeats 4000000
set_option maxRecDepth 100000
def Ws (ts:List bH) (jl:Int) (x:iU):Bool:=(x.effect == jl)&&!(ts.any λt=>AY t x)
def BD (ts:List bH) (jl:Int) (xs:List iU):Nat:=(xs.filter (Ws ts jl)).length
theorem ahR {ts:List bH} {jl:Int} {xs:List iU} {k:Nat} (h:k < xs.length) (hp:Ws ts jl xs[k] = true):BD ts jl (xs.take (k+1)) = BD ts jl (xs.take k)+1:=by
 unfold BD;rw [List.take_succ_eq_append_getElem h,List.filter_append];simp [hp]
theorem ady {ts:List bH} {jl:Int} {xs:List iU} {k:Nat} (h:k < xs.length) (hp:Ws ts jl xs[k] = false):BD ts jl (xs.take (k+1)) = BD ts jl (xs.take k):=by
 unfold BD;rw [List.take_succ_eq_append_getElem h,List.filter_append];simp [hp]
theorem UN (ts:List bH) (jl:Int) (xs:List iU):BD ts jl xs<=xs.length:=List.length_filter_le _ _
theorem aee (ts:List bH) (jl:Int) (xs:List iU) (k:Nat):BD ts jl (xs.take k)<=k:=Nat.le_trans (UN _ _ _) Ak
theorem UQ (ts:List bH) (xs:List iU) (jl:Int) (A B:Option Addr) (n m c d:Nat) (F G:List Nat) (w:World) (h:Sl w ts A c F) (h':Sl w xs B d G) (hn:n = ts.length) (hm:m = xs.length) (hl:(ts.length:Int)<=1048576) (pq:(xs.length:Int)<=1048576)
 (cN:(∀t∈ts,(t.key.size:Int)<=1048576/\(t.value.size:Int)<=1048576)) (Pu:(∀x∈xs,(x.key.size:Int)<=1048576/\(x.value.size:Int)<=1048576)) :
 Calls Tryz.prog 240 #[.slice A n c,.slice B m d,.int .i64 jl] w λe w'=>e = .returned (.int .i64 (BD ts jl xs))/\Below w.heap.size w w':=by
 subst hm;subst hn;have Eo:=I cN;have HSX:=I Pu;clear cN Pu;go_enter Tryz.func240,Tryz.ntmps240;go_wp2_with fail
 go_loopw [7,8] (λx i wr=>∃k:Nat,k<=xs.length/\i = .int .i64 k/\x = .int .i64 (BD ts jl (xs.take k))/\Below w.heap.size w wr) (λ_ i _=>xs.length - (intOf i).toNat)
 case atStart=>exact ⟨0,Nat.zero_le _,rfl,rfl,bJ⟩
 case round =>
  obtain ⟨k,hk,rfl,rfl,aM⟩:=hrel;by_cases ap:k < xs.length
  ·obtain ⟨b,o,ck,Fk,rfl,o9,hbs,hr,bi,hc⟩:=(Sl.ext (w':=wr) (A:=B) (c:=d) h' aM).get ap;obtain ⟨ar,su,b5,kP,lD⟩:=oK hr;subst ar;obtain ⟨q0,q1,q2⟩:=oa 3 hc;clear hc;obtain ⟨cS,cO⟩:=HSX.out xs[k] (List.getElem_mem ..);have hnt:=aee ts jl xs k;generalize hz:(BD ts jl (xs.take k):Int) = z at *;have pT:((xs[k].effect != jl) || (ts.take 0).any (λt=>AY t xs[k])) = (xs[k].effect != jl):=S';obtain ⟨wo,hwo⟩:∃wo,wo = wr:=⟨_,rfl⟩;subst hwo;go_wp2_with fail
   go_loopw [9,10] (λv u wi=>∃j:Nat,j<=ts.length/\u = .int .i64 j/\v = .bool ((xs[k].effect != jl) || (ts.take j).any (λt=>AY t xs[k]))/\Below w.heap.size w wi/\Below wo.heap.size wo wi) (λ_ u _=>ts.length - (intOf u).toNat)
   case atStart=>exact ⟨0,Nat.zero_le _,rfl,by rw [pT],aM,aj _⟩
   case round =>
    obtain ⟨j,hj,rfl,rfl,hbi,rB⟩:=hrel;replace q0:=r' rB q0 hbs;replace q1:=r' rB q1 hbs;replace q2:=r' rB q2 hbs;replace hbs:=Nat.lt_of_lt_of_le hbs rB.size;by_cases jH:j < ts.length
    ·obtain ⟨b2,o2,ck2,Fk2,rfl,ayO,uO,eT,mN,bM⟩:=(Sl.ext (w':=wr) (A:=A) (c:=c) h hbi).get jH;obtain ⟨ar,abT,vC,rP,uY⟩:=jv eT;subst ar;obtain ⟨p0,p1,p2,p3⟩:=EE 4 bM;clear bM;obtain ⟨ht1,ht2⟩:=Eo.out ts[j] (List.getElem_mem ..);have lM:(ts.take (j+1)).any (λt=>AY t xs[k]) = ((ts.take j).any (λt=>AY t xs[k]) || AY ts[j] xs[k]):=(by rw [List.take_succ_eq_append_getElem jH,List.any_append];simp);generalize hv:((xs[k].effect != jl) || (ts.take j).any (λt=>AY t xs[k])) = v at *;have eh:((xs[k].effect != jl) || (ts.take (j+1)).any (λt=>AY t xs[k])) = (v || AY ts[j] xs[k]):=(by rw [lM,<- Bool.or_assoc,hv]);have Jf:=I eh;clear eh lM hv pT;cases v
     all_goals
      go_wp2_with fail
      refine aF _ U' U' (aj _) ?_
      repeat (first
       | (apply aG
          case hw=>rfl
          simp only [Act.put,pz])
       | (apply aH
          case hw=>rfl
          case h =>
           intro wq hq;have et:=(aB hq).1;have lJ:=(aB hq).2;go_simp
           first
            | exact ⟨hq,rfl⟩
            | exact ⟨aQ hq _,rfl⟩
            | (refine (ahN ts[j] xs[k] _ _ _ [] _ (aJ eT atV) (Q8 _ xs[k] b5 kP lD) ht1 ht2 cS cO).mono ?_;rintro e w2 ⟨rfl,am⟩;exact ⟨rfl,aI hq am⟩)
            | (simp only [↓IntWalk.iteOmega];exact ⟨hq,rfl⟩)
          simp only [Act.put,pz]))
      refine aN ?_;intro wn hn;replace hn:=hn.out;go_wp2;exact ⟨⟨j+1,J,N',by rw [Jf.out];rfl,ah hbi hn,ah rB hn⟩,by simp [intOf];omega⟩
    ·have UG:j = ts.length:=J;subst UG;rw [List.take_length];cases hef:(xs[k].effect == jl) <;> cases han:(ts.any λt=>AY t xs[k])
     all_goals
      have hp:Ws ts jl xs[k] = _:=(by unfold Ws;rw [hef,han]);simp only [Bool.false_and,Bool.true_and,Bool.not_true,Bool.not_false] at hp;first | have HN:=I (ahR ap hp) | have HN:=I (ady ap hp)
      have bI:(xs[k].effect != jl) = _:=(by unfold bne;rw [hef]);rw [bI];clear hp han;go_wp2;exact ⟨⟨k+1,J,N',by rw [HN.out,<- hz] <;> first | rfl | go_num,hbi⟩,by simp [intOf];omega⟩
  ·have bz:k = xs.length:=J;subst bz;go_wp2;go_ret
   exact ⟨by rw [List.take_length];rfl,aM⟩
theorem BH {xs:List iU} (h:(kL iU.wt xs:Int)<=1048576):((xs.length:Int)<=1048576)/\∀l∈xs,(l.key.size:Int)<=1048576/\(l.value.size:Int)<=1048576:=by
 refine ⟨by have:=gJ iU.wt xs;omega,λl hl=>?_⟩;have h1:=Bq (f:=iU.wt) hl;have e:iU.wt l = l.key.size+l.value.size:=rfl;omega
theorem FQ {xs:List bH} (h:(kL bH.wt xs:Int)<=1048576):((xs.length:Int)<=1048576)/\∀l∈xs,(l.key.size:Int)<=1048576/\(l.value.size:Int)<=1048576:=by
 refine ⟨by have:=gJ bH.wt xs;omega,λl hl=>?_⟩;have h1:=Bq (f:=bH.wt) hl;have e:bH.wt l = l.key.size+l.value.size:=rfl;omega
theorem yg {α:Type} (p:α->Bool) (xs:List α):pK p xs = -1∨∃k:Nat,k < xs.length/\pK p xs = k:=by
 have:=Nc (p:=p) xs;by_cases h:pK p xs < 0
 ·left;omega
 ·right;exact ⟨(pK p xs).toNat,J,J⟩
theorem Aa {xs:List aL} (h:(kL aL.wt xs:Int)<=1048576):((xs.length:Int)<=1048576)/\(∀l∈xs,(l.key.size:Int)<=1048576/\(l.values.length:Int)<=1048576/\∀v∈l.values,(v.size:Int)<=1048576):=by
 refine ⟨by have:=gJ aL.wt xs;omega,λl hl=>?_⟩;have h1:=Bq (f:=aL.wt) hl;have e:aL.wt l = l.key.size+It l.values:=rfl;have h2:=gJ ByteArray.size l.values;unfold It at e;refine ⟨J,J,λv hv=>?_⟩;have h3:=Bq (f:=ByteArray.size) hv;omega
theorem sW {xs:List ao} (h:(kL ao.wt xs:Int)<=1048576):((xs.length:Int)<=1048576)/\∀l∈xs,(l.key.size:Int)<=1048576/\(l.value.size:Int)<=1048576:=by
 refine ⟨by have:=gJ ao.wt xs;omega,λl hl=>?_⟩;have h1:=Bq (f:=ao.wt) hl;have e:ao.wt l = l.key.size+l.value.size:=rfl;omega
def MF (s:ByteArray) (xs:List ByteArray):Bool:=xs.any λv=>v.toList == s.toList
theorem ar4 {s:ByteArray} {xs:List ByteArray} {k:Nat} (hk:k < xs.length) (hp:(xs[k].toList == s.toList) = true):MF s xs = true:=by
 unfold MF;rw [List.any_eq_true];exact ⟨xs[k],List.getElem_mem ..,hp⟩
theorem atn {s:ByteArray} {xs:List ByteArray} (hn:∀v∈xs,(v.toList == s.toList) = false):MF s xs = false:=by
 unfold MF;rw [List.any_eq_false];intro v hv;simp [hn v hv]
theorem aaG (xs:List ByteArray) (s:ByteArray) (A:Option Addr) (n c:Nat) (F:List Nat) (w:World) (h:Sl w xs A c F) (hn:n = xs.length) (hl:(xs.length:Int)<=1048576) :
 Calls Tryz.prog 251 #[.slice A n c,.string s] w λe w'=>e = .returned (.bool (MF s xs))/\Below w.heap.size w w':=by
 subst hn;go_enter Tryz.func251,Tryz.ntmps251;go_wp2_with fail
 go_loopw [5] (λi wr=>∃k:Nat,k<=xs.length/\i = .int .i64 k/\Hid (∀v∈xs.take k,(v.toList == s.toList) = false)/\Below w.heap.size w wr) (λi _=>xs.length - (intOf i).toNat)
 case atStart=>exact ⟨0,Nat.zero_le _,rfl,by show ∀_,_;simp,bJ⟩
 case round =>
  obtain ⟨k,hk,rfl,HN,aM⟩:=hrel;by_cases ap:k < xs.length
  ·obtain ⟨b,o,ck,Fk,rfl,o9,hbs,hr,bi,hc⟩:=(Sl.ext (w':=wr) (A:=A) (c:=c) h aM).get ap;obtain ⟨ar,su,d9⟩:=hr;subst ar su;have q0:wr.cell? ⟨b,o+k,none⟩ = some (.string xs[k]):=(by have:=hc 0 _ rfl;rwa [show o+(k * ax.size ByteArray+0) = o+k from by show o+(k * 1+0) = _;omega] at this);clear hc;cases hp:(xs[k].toList == s.toList) with
   | true =>have ze:(s.toList == xs[k].toList) = true:=(by rw [BEq.comm];exact hp);have HF:=I (ar4 ap hp);exact fg
   | false =>have ze:(s.toList == xs[k].toList) = false:=(by rw [BEq.comm];exact hp);have Gn:=I (yQ (p:=λv:ByteArray=>v.toList == s.toList) ap HN.out hp);exact Ef
  ·have bz:k = xs.length:=J;subst bz;have hn:=HN.out;rw [List.take_length] at hn;have HF:=I (atn hn);clear hn;exact fg
def JO (key:ByteArray) (l:ao):Bool:=l.key.toList == key.toList
def Df (key:ByteArray) (xs:List ao):ByteArray × Bool:=match xs.find? (JO key) with | some l=>(l.value,true) | none=>(⟨#[]⟩,false)
theorem adM {key:ByteArray} {xs:List ao} {k:Nat} (hk:k < xs.length) (hn:∀l∈xs.take k,JO key l = false) (hp:JO key xs[k] = true):Df key xs = (xs[k].value,true):=by
 have e:xs.find? (JO key) = some xs[k]:=by rw [List.find?_eq_some_iff_append];exact ⟨hp,xs.take k,xs.drop (k+1),by rw [List.getElem_cons_drop,List.take_append_drop],λa ha=>by simp [hn a ha]⟩
 unfold Df;rw [e]
theorem agB {key:ByteArray} {xs:List ao} (hn:∀l∈xs,JO key l = false):Df key xs = (⟨#[]⟩,false):=by
 have e:xs.find? (JO key) = none:=by rw [List.find?_eq_none];intro l hl;simp [hn l hl]
 unfold Df;rw [e]
theorem akK (xs:List ao) (key:ByteArray) (A:Option Addr) (n c:Nat) (F:List Nat) (w:World) (h:Sl w xs A c F) (hn:n = xs.length) (hl:(xs.length:Int)<=1048576) :
 Calls Tryz.prog 250 #[.slice A n c,.string key] w λe w'=>e = .returned (.tuple #[.string (Df key xs).1,.bool (Df key xs).2])/\Below w.heap.size w w':=by
 subst hn;go_enter Tryz.func250,Tryz.ntmps250;go_wp2_with fail
 go_loopw [6] (λi wr=>∃k:Nat,k<=xs.length/\i = .int .i64 k/\Hid (∀l∈xs.take k,JO key l = false)/\Below w.heap.size w wr) (λi _=>xs.length - (intOf i).toNat)
 case atStart=>exact ⟨0,Nat.zero_le _,rfl,by show ∀_,_;simp,bJ⟩
 case round =>
  obtain ⟨k,hk,rfl,HN,aM⟩:=hrel;by_cases ap:k < xs.length
  ·obtain ⟨b,o,ck,Fk,rfl,o9,hbs,hr,bi,hc⟩:=(Sl.ext (w':=wr) (A:=A) (c:=c) h aM).get ap;obtain ⟨ar,su,b5,kP⟩:=vO hr;subst ar;obtain ⟨q0,q1⟩:=EC 2 hc;clear hc;cases hp:JO key xs[k] with
   | true =>
     have HF:=I (adM ap HN.out hp);unfold JO at hp;go_wp2;go_returns
     exact ⟨by rw [HF.out];rfl,bJ⟩
   | false =>have Gn:=I (yQ ap HN.out hp);unfold JO at hp;exact Ef
  ·have bz:k = xs.length:=J;subst bz;have hn:=HN.out;rw [List.take_length] at hn;have HF:=I (agB hn);clear hn;go_wp2;go_returns
   exact ⟨by rw [HF.out];rfl,bJ⟩
theorem W3:∀(xs:List Int) (s t:Int),(∀x∈xs,bt x)->bt s->GZ xs s = some t->bt t
 | [],s,t,_,hs,h=>by simp only [GZ,Option.some.injEq] at h;subst h;exact hs
 | x :: xs,s,t,hx,hs,h=>by
   simp only [GZ] at h;cases e:GX s x with
   | none=>rw [e] at h;cases h
   | some m =>rw [e] at h;exact W3 xs m t (λy hy=>hx y (List.mem_cons_of_mem _ hy)) (RU e hs (hx x (List.mem_cons_self ..))) h
theorem aqt {xs:List nI} {a b:Int} (hx:∀p∈xs,bt p.aq/\bt p.mem) (h:vU xs = some (a,b)):bt a/\bt b:=by
 unfold vU at h;cases e1:GZ (xs.map nI.aq) 0 with
 | none=>rw [e1] at h;cases h
 | some m =>
   cases e2:GZ (xs.map nI.mem) 0 with
   | none=>rw [e1,e2] at h;cases h
   | some n =>
     rw [e1,e2] at h;simp only [Option.some.injEq,Prod.mk.injEq] at h;obtain ⟨rfl,rfl⟩:=h;have z:bt 0:=⟨J,J⟩;refine ⟨W3 _ 0 _ (λy hy=>?_) z e1,W3 _ 0 _ (λy hy=>?_) z e2⟩
     ·obtain ⟨p,hp,rfl⟩:=List.mem_map.1 hy;exact (hx p hp).1
     ·obtain ⟨p,hp,rfl⟩:=List.mem_map.1 hy;exact (hx p hp).2
theorem atL {nm:ByteArray} {xs:List ag} {p:nI} (h:p∈F7 nm xs):∃q∈xs,p = q.aS:=by
 unfold F7 at h;obtain ⟨q,hq,rfl⟩:=List.mem_map.1 h;exact ⟨q,(List.mem_filter.1 hq).1,rfl⟩
theorem Sl.ao8 {w:World} {xs:List ag} {A:Option Addr} {c:Nat} {F:List Nat} (h:Sl w xs A c F):∀p∈xs,bt p.aS.aq/\bt p.aS.mem:=by
 intro p hp;obtain ⟨k,hk,rfl⟩:=List.getElem_of_mem hp;obtain ⟨b,o,ck,Fk,_,_,_,hr,_⟩:=h.get hk;obtain ⟨gV,gW,lF,iR,iT,mV,dD,dF,iH,ar,hF,nY,iE,rF,rG,oZ,je,dN,eC,hseq⟩:=kE hr;exact ⟨rF,rG⟩
theorem UD {w:World} {xs:List ag} {A:Option Addr} {c:Nat} {F:List Nat} {nm:ByteArray} {a b:Int} (h:Sl w xs A c F) (hs:vU (F7 nm xs) = some (a,b)):bt a/\bt b :=
 aqt (λp hp=>by obtain ⟨q,hq,rfl⟩:=atL hp;exact h.ao8 q hq) hs
theorem AX {nm:ByteArray} {xs:List ag} {a b:Int} (h:vU (F7 nm xs) = some (a,b)):KF nm xs = .tuple #[.int .i64 a,.int .i64 b,.int .i64 (F7 nm xs).length,.bool true]:=by unfold KF;rw [h]
theorem AV {nm:ByteArray} {xs:List ag} (h:vU (F7 nm xs) = none):KF nm xs = .tuple #[.int .i64 0,.int .i64 0,.int .i64 0,.bool false]:=by unfold KF;rw [h]
def qG (a b:Int):Int:=(GX a b).getD 9223372036854775807
theorem Ru {a b:Int} (ha:bt a) (hb:bt b):bt (qG a b):=by
 unfold qG;cases h:GX a b with
 | none=>exact ⟨by show _<=(9223372036854775807:Int);omega,by show (9223372036854775807:Int)<=_;omega⟩
 | some t=>exact RU h ha hb
def OT (nm:ByteArray) (x:aU) (p:nI):Int :=
 if pK (iM nm) x.O < 0 then 0 else
 match vU (F7 nm x.M),x.O[(pK (iM nm) x.O).toNat]? with
 | some (a,b),some h=>(CQ (qG a p.aq) h.aq+CQ (qG b p.mem) h.mem) / 2
 | _,_=>0
def EF (nm:ByteArray) (x:aU):Int :=
 if pK (iM nm) x.O < 0 then 0 else
 match vU (F7 nm x.M),x.O[(pK (iM nm) x.O).toNat]? with
 | some (a,b),some h=>100 - CQ (F7 nm x.M).length h.slots
 | _,_=>0
theorem amo {nm:ByteArray} {x:aU} {p:nI} (h:pK (iM nm) x.O = -1):OT nm x p = 0:=by unfold OT;rw [h];rfl
theorem agF {nm:ByteArray} {x:aU} {p:nI} (h:vU (F7 nm x.M) = none):OT nm x p = 0:=by unfold OT;rw [h];simp
theorem amq {nm:ByteArray} {x:aU} {p:nI} {k:Nat} {a b:Int} (hk:k < x.O.length) (h:pK (iM nm) x.O = k) (hs:vU (F7 nm x.M) = some (a,b)):OT nm x p = (CQ (qG a p.aq) x.O[k].aq+CQ (qG b p.mem) x.O[k].mem) / 2:=by
 unfold OT;exact Eh
theorem agG {nm:ByteArray} {x:aU} (h:pK (iM nm) x.O = -1):EF nm x = 0:=by unfold EF;rw [h];rfl
theorem abX {nm:ByteArray} {x:aU} (h:vU (F7 nm x.M) = none):EF nm x = 0:=by unfold EF;rw [h];simp
theorem agH {nm:ByteArray} {x:aU} {k:Nat} {a b:Int} (hk:k < x.O.length) (h:pK (iM nm) x.O = k) (hs:vU (F7 nm x.M) = some (a,b)):EF nm x = 100 - CQ (F7 nm x.M).length x.O[k].slots:=by
 unfold EF;exact Eh
theorem adO (nm:ByteArray) (x:aU) (p:nI):0<=OT nm x p/\OT nm x p<=100:=by
 unfold OT;split
 ·omega
 ·split
  ·rename_i a b h _ _;have h1:=zJ (qG a p.aq) h.aq;have h2:=zJ (qG b p.mem) h.mem;omega
  ·omega
theorem ZO (nm:ByteArray) (x:aU):0<=EF nm x/\EF nm x<=100:=by
 unfold EF;split
 ·omega
 ·split
  ·rename_i a b h _ _;have h1:=zJ (F7 nm x.M).length h.slots;omega
  ·omega
theorem Zz (x:aU) (p:nI) (cs ps:List Value) (F G:List Nat) (nm:ByteArray) (w:World) (h:rd w x cs F) (h':rd w p ps G) (hw:(x.wt:Int)<=1048576) (kv:(p.wt:Int)<=1048576) :
 Calls Tryz.prog 215 #[.agg cs.toArray,.string nm,.agg ps.toArray] w λe w'=>e = .returned (.int .i64 (OT nm x p))/\Below w.heap.size w w':=by
 have i':x.wt = kL ba.wt x.O+kL ag.wt x.M:=rfl;have bE:(x.O.length:Int)<=1048576:=by have:=gJ ba.wt x.O;omega
 have vk:(x.M.length:Int)<=1048576:=by have:=gJ ag.wt x.M;omega
 have hr:=h;have dE:=h';obtain ⟨bG,bD,fQ,dn,bW,jg,ar,hF,bQ,dM,hnext,aV,aP,aW⟩:=aO hr;obtain ⟨bY,bZ,iq,eU,eX,jV,bg,bn,dK,jU,hG,jW,dA,kQ,lg,lG,iO,bK⟩:=dL dE;subst ar jU;clear hF hG hr dE;rcases yg (iM nm) x.O with hi | ⟨k,hk,hi⟩
 ·have HF:=I (amo (p:=p) hi);have HI:=I hi;clear hi;cases hs:vU (F7 nm x.M) with
  | none =>have HU:=I (AV hs);exact Ez
  | some ab =>obtain ⟨a,b⟩:=ab;have HU:=I (AX hs);exact Ez
 ·cases hs:vU (F7 nm x.M) with
  | none =>have HF:=I (agF (p:=p) hs);have HI:=I hi;clear hi;have HU:=I (AV hs);exact Ez
  | some ab =>
    obtain ⟨a,b⟩:=ab;have cF:=amq (p:=p) hk hi hs;obtain ⟨ha,hb⟩:=UD (A:=dn) (c:=bW) dM hs;have HI:=I hi;clear hi;have HU:=I (AX hs);clear hs;have hL:=NK nm x.M;generalize (F7 nm x.M).length = L at cF HU hL;have Ix:(L:Int)<=1048576:=J;clear hL;obtain ⟨bh,o,ck,Fk,rfl,o9,hbs,hr,bi,hc⟩:=Sl.get (α:=ba) (A:=bG) (c:=bD) bQ hk;obtain ⟨jM,jO,sN,jE,jF,sO,ar,su,zM,qY,Gt,Gw,xg,qA⟩:=iy hr;subst ar;obtain ⟨q0,q1,q2,q3,q4,q5⟩:=ss 6 hc;clear hc;obtain ⟨S1,me⟩:∃S,CQ (qG a p.aq) x.O[k].aq = S:=⟨_,rfl⟩;obtain ⟨S2,bS⟩:∃S,CQ (qG b p.mem) x.O[k].mem = S:=⟨_,rfl⟩;have iB:=zJ (qG a p.aq) x.O[k].aq;have eT:=zJ (qG b p.mem) x.O[k].mem;have pn:=Ru ha kQ;have pm:=Ru hb lg;rw [me,bS] at cF;rw [me] at iB;rw [bS] at eT;have HF:=I cF;clear cF;have my:IntKind.i64.wrap (S1+S2) = S1+S2:=(by rw [IntKind.wrap_i64];omega);have HW2:=I (show IntKind.i64.wrap ((S1+S2).tdiv 2) = (S1+S2) / 2 by rw [Int.tdiv_eq_ediv_of_nonneg J,IntKind.wrap_i64];omega);cases he1:GX a p.aq with
    | none =>rw [show qG a p.aq = 9223372036854775807 by unfold qG;rw [he1];rfl] at me pn;exact Nq
    | some s1 =>rw [show qG a p.aq = s1 by unfold qG;rw [he1];rfl] at me pn;exact Nq
theorem aey (x:aU) (p:nI) (cs ps:List Value) (F G:List Nat) (nm:ByteArray) (w:World) (h:rd w x cs F) (h':rd w p ps G) (hw:(x.wt:Int)<=1048576) (kv:(p.wt:Int)<=1048576) :
 Calls Tryz.prog 216 #[.agg cs.toArray,.string nm,.agg ps.toArray] w λe w'=>e = .returned (.int .i64 (EF nm x))/\Below w.heap.size w w':=by
 have i':x.wt = kL ba.wt x.O+kL ag.wt x.M:=rfl;have bE:(x.O.length:Int)<=1048576:=by have:=gJ ba.wt x.O;omega
 have vk:(x.M.length:Int)<=1048576:=by have:=gJ ag.wt x.M;omega
 have hr:=h;have dE:=h';obtain ⟨bG,bD,fQ,dn,bW,jg,ar,hF,bQ,dM,hnext,aV,aP,aW⟩:=aO hr;obtain ⟨bY,bZ,iq,eU,eX,jV,bg,bn,dK,jU,hG,jW,dA,kQ,lg,lG,iO,bK⟩:=dL dE;subst ar jU;clear hF hG hr dE;rcases yg (iM nm) x.O with hi | ⟨k,hk,hi⟩
 ·have HF:=I (agG  hi);have HI:=I hi;clear hi;cases hs:vU (F7 nm x.M) with
  | none =>have HU:=I (AV hs);exact EA
  | some ab =>obtain ⟨a,b⟩:=ab;have HU:=I (AX hs);exact EA
 ·cases hs:vU (F7 nm x.M) with
  | none =>have HF:=I (abX  hs);have HI:=I hi;clear hi;have HU:=I (AV hs);exact EA
  | some ab =>
    obtain ⟨a,b⟩:=ab;have cF:=agH  hk hi hs;obtain ⟨ha,hb⟩:=UD (A:=dn) (c:=bW) dM hs;have HI:=I hi;clear hi;have HU:=I (AX hs);clear hs;have hL:=NK nm x.M;generalize (F7 nm x.M).length = L at cF HU hL;have Ix:(L:Int)<=1048576:=J;clear hL;obtain ⟨bh,o,ck,Fk,rfl,o9,hbs,hr,bi,hc⟩:=Sl.get (α:=ba) (A:=bG) (c:=bD) bQ hk;obtain ⟨jM,jO,sN,jE,jF,sO,ar,su,zM,qY,Gt,Gw,xg,qA⟩:=iy hr;subst ar;obtain ⟨q0,q1,q2,q3,q4,q5⟩:=ss 6 hc;clear hc;obtain ⟨S1,me⟩:∃S,CQ (L:Int) x.O[k].slots = S:=⟨_,rfl⟩;have iB:=zJ (L:Int) x.O[k].slots;rw [me] at cF iB;have HF:=I cF;have Tb:=I me;clear cF me;have hLI:bt (L:Int):=(by unfold bt;omega);have my:IntKind.i64.wrap (100 - S1) = 100 - S1:=(by rw [IntKind.wrap_i64];omega);go_enter Tryz.func216,Tryz.ntmps216;go_wp2_with fail
    refine (gQ x _ _ nm _ (aJ h bJ) bE).mono ?_;rw [HI.out];rintro e w2 ⟨rfl,am⟩;obtain ⟨bM,cB⟩:=ay am;have ca:w.heap.size < w2.heap.size:=(sq am.size);have rj:w.heap.size+1 < w2.heap.size:=(sq am.size);have gL:Below w.heap.size w w2:=bJ;go_wp2_with fail
    refine (jm x _ _ nm _ (aJ h bJ) vk).mono ?_;rw [HU.out];rintro e w3 ⟨rfl,az⟩;obtain ⟨cw,hf3⟩:=ay az;have eB:w.heap.size < w3.heap.size:=(sq az.size);have Jx:w.heap.size+1 < w3.heap.size:=(sq az.size);have gT:Below w.heap.size w w3:=ah gL az;replace q0:=r' gT q0 hbs;replace q1:=r' gT q1 hbs;replace q2:=r' gT q2 hbs;replace q3:=r' gT q3 hbs;replace q4:=r' gT q4 hbs;replace q5:=r' gT q5 hbs;have jd:bh < w3.heap.size:=(by have:=gT.size;omega);go_wp2_with fail
    refine (IB _ _ _ Q4 Q4).mono ?_;rw [Tb.out];rintro e wn ⟨rfl,hn⟩;go_wp2;go_ret
    exact ⟨by rw [HF.out];first | rfl | simp,ah gT hn⟩
def Rt (nm:ByteArray) (x:aU) (p:nI):Int :=
 if pK (iM nm) x.O < 0 then 0 else
 match x.O[(pK (iM nm) x.O).toNat]? with
 | none=>0
 | some h=>max 0 (100 - 25 * (BD p.ae 2 h.aT:Int))
theorem amY {nm:ByteArray} {x:aU} {p:nI} (h:pK (iM nm) x.O = -1):Rt nm x p = 0:=by unfold Rt;rw [h];rfl
theorem aje {nm:ByteArray} {x:aU} {p:nI} {k:Nat} (hk:k < x.O.length) (h:pK (iM nm) x.O = k):Rt nm x p = max 0 (100 - 25 * (BD p.ae 2 x.O[k].aT:Int)):=by
 unfold Rt;rw [h,if_neg J,Int.toNat_natCast,List.getElem?_eq_getElem hk]
theorem acy (n:Int) (w:World) (h:n<=100) (h0:-9223372036854775808<=n):Calls Tryz.prog 239 #[.int .i64 n,.int .i64 0,.int .i64 100] w λe w'=>e = .returned (.int .i64 (max 0 n))/\w' = w:=by
 by_cases hn:n < 0
 ·rw [show max 0 n = 0 by omega];go_enter Tryz.func239,Tryz.ntmps239;go_wp2;go_ret
  exact ⟨rfl,rfl⟩
 ·rw [show max 0 n = n by omega];go_enter Tryz.func239,Tryz.ntmps239;go_wp2;go_ret
  exact ⟨rfl,rfl⟩
theorem ZI (x:aU) (p:nI) (cs ps:List Value) (F G:List Nat) (nm:ByteArray) (w:World) (h:rd w x cs F) (h':rd w p ps G) (hw:(x.wt:Int)<=1048576) (kv:(p.wt:Int)<=1048576) :
 Calls Tryz.prog 217 #[.agg cs.toArray,.string nm,.agg ps.toArray] w λe w'=>e = .returned (.int .i64 (Rt nm x p))/\Below w.heap.size w w':=by
 have i':x.wt = kL ba.wt x.O+kL ag.wt x.M:=rfl;have FB:p.wt = p.name.size+kL ao.wt p.labels+kL aL.wt p.af+kL bH.wt p.ae:=rfl;have bE:(x.O.length:Int)<=1048576:=by have:=gJ ba.wt x.O;omega
 obtain ⟨gg,i7⟩:=FQ (xs:=p.ae) J;have Ux:=I i7;clear i7;obtain ⟨bG,bD,fQ,dn,bW,jg,ar,hF,bQ,dM,hnext,aV,aP,aW⟩:=aO h;obtain ⟨bY,bZ,iq,eU,eX,jV,bg,bn,dK,jU,hG,jW,dA,kQ,lg,lG,iO,bK⟩:=dL h';subst ar jU;rcases yg (iM nm) x.O with hi | ⟨k,hk,hi⟩
 ·have HF:=I (amY (p:=p) hi);have HI:=I hi;clear hi;go_enter Tryz.func217,Tryz.ntmps217;go_wp2_with fail
  refine (gQ x _ _ nm _ (aJ h bJ) bE).mono ?_;rw [HI.out];rintro e w2 ⟨rfl,am⟩;exact fg
 ·have HF:=I (aje (p:=p) hk hi);have HI:=I hi;clear hi;have cV:(kL iU.wt x.O[k].aT:Int)<=1048576:=by
   have h1:=rM (f:=ba.wt) hk;have h2:ba.wt x.O[k] = x.O[k].name.size+kL ao.wt x.O[k].labels+kL iU.wt x.O[k].aT:=rfl;omega
  obtain ⟨tF,hxs⟩:=BH cV;have HXS:=I hxs;clear hxs;have W5:=UN p.ae 2 x.O[k].aT;obtain ⟨b,o,ck,Fk,rfl,o9,hbs,hr,bi,hc⟩:=Sl.get (α:=ba) (A:=bG) (c:=bD) bQ hk;obtain ⟨jM,jO,sN,jE,jF,sO,ar,su,zM,qY,Gt,Gw,xg,qA⟩:=iy hr;subst ar;obtain ⟨q0,q1,q2,q3,q4,q5⟩:=ss 6 hc;clear hc;go_enter Tryz.func217,Tryz.ntmps217;go_wp2_with fail
  refine (gQ x _ _ nm _ (aJ h bJ) bE).mono ?_;rw [HI.out];rintro e w2 ⟨rfl,am⟩;obtain ⟨bM,cB⟩:=ay am;have ca:w.heap.size+1 < w2.heap.size:=sq am.size;have rj:w.heap.size < w2.heap.size:=by omega
  have gL:Below w.heap.size w w2:=bJ;replace q5:=r' gL q5 hbs;have uO:b < w2.heap.size:=by omega
  have Pv:∀wq,Below w.heap.size w wq->Calls Tryz.prog 240 #[.slice bg p.ae.length bn,.slice jE x.O[k].aT.length jF,.int .i64 2] wq λe w'=>e = .returned (.int .i64 (BD p.ae 2 x.O[k].aT))/\Below wq.heap.size wq w' :=
   λwq hq=>UQ p.ae x.O[k].aT 2 _ _ _ _ _ _ _ _ _ (bK.ext hq) (qA.ext hq) rfl rfl gg tF Ux.out HXS.out
  have Z6:=I Pv;clear Pv;generalize BD p.ae 2 x.O[k].aT = z at Z6 HF W5;have td:(z:Int)<=1048576:=by omega
  have mH:IntKind.i64.wrap (25 * (z:Int)) = 25 * (z:Int):=IntWalk.i64_in _ J;have zA:IntKind.i64.wrap (100 - 25 * (z:Int)) = 100 - 25 * (z:Int):=IntWalk.i64_in _ J;by_cases hpos:(100:Int) - 25 * (z:Int)<=0
  ·have hM:max 0 (100 - 25 * (z:Int)) = 0:=J;have HM:=I hM;clear hM;go_wp2_with fail
   refine aF w2 U' U' (aj _) ?_
   repeat ((first | refine aG J' ?_ | refine aH _ J' Lx ?_);simp only [Act.put,pz])
   refine aN ?_;intro wn hn;replace hn:=hn.out;go_wp2;go_ret
   exact ⟨by rw [HF.out,HM.out];rfl,ah gL hn⟩
  ·have aad:(0:Int) < 100 - 25 * (z:Int):=J;have hM:max 0 (100 - 25 * (z:Int)) = 100 - 25 * (z:Int):=J;have HM:=I hM;clear hM;have eW:(100:Int) - 25 * (z:Int)<=100:=J;go_wp2_with fail
   refine aF w2 U' U' (aj _) ?_
   repeat ((first | refine aG J' ?_ | refine aH _ J' Lx ?_);simp only [Act.put,pz])
   refine aN ?_;intro wn hn;replace hn:=hn.out;go_wp2;go_ret
   exact ⟨by rw [HF.out,HM.out] <;> first | rfl | (simp;omega),ah gL hn⟩
def xC (labels:List ao) (x:aL):Bool:=uh x &&
 (if x.op = 1 then (Df x.key labels).2&&MF (Df x.key labels).1 x.values
  else if x.op = 2 then !(Df x.key labels).2 || !MF (Df x.key labels).1 x.values
  else if x.op = 3 then (Df x.key labels).2 else !(Df x.key labels).2)
theorem apu {labels:List ao} {x:aL} (h:uh x = false):xC labels x = false:=by unfold xC;rw [h];rfl
theorem aiV {x:aL} (h:uh x = true):x.op = 1∨x.op = 2∨x.op = 3∨x.op = 4:=by
 unfold uh at h;exact yz
theorem abZ (labels:List ao) (x:aL) (A:Option Addr) (n c:Nat) (F:List Nat) (cs:List Value) (G:List Nat) (w:World) (h:Sl w labels A c F) (hn:n = labels.length) (h':rd w x cs G) (eZ:(labels.length:Int)<=1048576)
 (lL:(x.key.size:Int)<=1048576) (hl:(x.values.length:Int)<=1048576) (cN:∀v∈x.values,(v.size:Int)<=1048576) :
 Calls Tryz.prog 249 #[.slice A n c,.agg cs.toArray] w λe w'=>e = .returned (.bool (xC labels x))/\Below w.heap.size w w':=by
 subst hn;have Eo:=I cN;clear cN;have hr:=h';obtain ⟨jy,ji,Bo,ar,qp,b5,gH,kV⟩:=og hr;subst ar;clear qp hr;cases hK:uh x with
 | false =>
   have HF:=I (apu (labels:=labels) hK);have HK:=I hK;clear hK;go_enter Tryz.func249,Tryz.ntmps249;go_wp2_with fail
   refine (Rx x _ _ _ (aJ h' bJ) lL hl Eo.out).mono ?_;rw [HK.out];rintro e w2 ⟨rfl,am⟩;exact fg
 | true =>
   have W6:=aiV hK
   have HU:=I (show xC labels x = (if x.op = 1 then (Df x.key labels).2&&MF (Df x.key labels).1 x.values
  else if x.op = 2 then !(Df x.key labels).2 || !MF (Df x.key labels).1 x.values
  else if x.op = 3 then (Df x.key labels).2 else !(Df x.key labels).2) by unfold xC;rw [hK,Bool.true_and])
   have HK:=I hK;clear hK;obtain ⟨v,t,hvt⟩:∃v t,Df x.key labels = (v,t):=⟨_,_,rfl⟩;have hu:=HU.out;rw [hvt] at hu;have HL:=I hvt;clear HU hvt;go_enter Tryz.func249,Tryz.ntmps249;go_wp2_with fail
   refine (Rx x _ _ _ (aJ h' bJ) lL hl Eo.out).mono ?_;rw [HK.out];rintro e w2 ⟨rfl,am⟩;obtain ⟨bM,cB⟩:=ay am;have ca:w.heap.size < w2.heap.size:=(by have:=am.size;simp at this;omega);have Ww:w2.cell? ⟨w.heap.size,0,none⟩ = some (.string x.key):=(by rw [bM _ _ S',cell_of_row _ _ _ _ _ _ (heap_alloc_new w _)];rfl);have x3:w2.cell? ⟨w.heap.size,1,none⟩ = some (.int .i64 x.op):=(by rw [bM _ _ S',cell_of_row _ _ _ _ _ _ (heap_alloc_new w _)];rfl);have pB:w2.cell? ⟨w.heap.size,2,none⟩ = some (.slice jy x.values.length ji):=(by rw [bM _ _ S',cell_of_row _ _ _ _ _ _ (heap_alloc_new w _)];rfl);have gL:Below w.heap.size w w2:=bJ;clear bM cB;go_wp2_with fail
   refine (akK labels x.key _ _ _ _ _ (h.ext gL) rfl eZ).mono ?_;rw [HL.out];rintro e w3 ⟨rfl,az⟩;replace x3:=r' az x3 ca;replace pB:=r' az pB ca;have eB:w.heap.size < w3.heap.size:=(by have:=az.size;omega);have gT:=ah gL az;clear Ww;have HU:=I hu;clear hu;rcases W6 with gH | gH | gH | gH
   all_goals
    have hu:=HU.out;rw [gH] at hu x3;simp only [Int.reduceEq,↓reduceIte] at hu;cases hh:MF v x.values <;> cases t
    all_goals
     have dB:=hu;try rw [hh] at dB
     have pw:=I dB;have HH:=I hh;clear dB hu hh gH;go_wp2_with (go_at_call 251;refine (aaG x.values v _ _ _ _ _ (kV.ext bJ) rfl hl).mono ?_;rw [HH.out];rintro e w4 ⟨rfl,bm⟩)
     go_ret
     exact ⟨by rw [pw.out];rfl,bJ⟩
def Hw (labels:List ao) (xs:List aL):Bool:=xs.all (xC labels)
theorem acu {labels:List ao} {xs:List aL} {k:Nat} (hk:k < xs.length) (h:xC labels xs[k] = false):Hw labels xs = false:=by
 unfold Hw;rw [List.all_eq_false];exact ⟨xs[k],List.getElem_mem ..,by simp [h]⟩
theorem amX {α:Type} {p:α->Bool} {xs:List α} {k:Nat} (hk:k < xs.length) (h:∀x∈xs.take k,p x = true) (hx:p xs[k] = true):∀x∈xs.take (k+1),p x = true:=by
 rw [List.take_succ_eq_append_getElem hk];intro x hm;rcases List.mem_append.1 hm with hm | hm
 ·exact h x hm
 ·simp only [List.mem_singleton] at hm;rw [hm];exact hx
theorem acv {labels:List ao} {xs:List aL} (h:∀x∈xs,xC labels x = true):Hw labels xs = true:=by
 unfold Hw;rw [List.all_eq_true];exact h
theorem alb (xs:List aL) (labels:List ao) (A B:Option Addr) (n m c d:Nat) (F G:List Nat) (w:World) (h:Sl w xs A c F) (h':Sl w labels B d G) (hn:n = xs.length) (hm:m = labels.length) (hl:(xs.length:Int)<=1048576) (eZ:(labels.length:Int)<=1048576)
 (cN:(∀l∈xs,(l.key.size:Int)<=1048576/\(l.values.length:Int)<=1048576/\∀v∈l.values,(v.size:Int)<=1048576)) :
 Calls Tryz.prog 247 #[.slice A n c,.slice B m d] w λe w'=>e = .returned (.bool (Hw labels xs))/\Below w.heap.size w w':=by
 subst hn hm;have Eo:=I cN;clear cN;go_enter Tryz.func247,Tryz.ntmps247;go_wp2_with fail
 go_loopw [5] (λi wr=>∃k:Nat,k<=xs.length/\i = .int .i64 k/\Hid (∀x∈xs.take k,xC labels x = true)/\Below w.heap.size w wr) (λi _=>xs.length - (intOf i).toNat)
 case atStart=>exact ⟨0,Nat.zero_le _,rfl,by show ∀_,_;simp,bJ⟩
 case round =>
  obtain ⟨k,hk,rfl,HN,aM⟩:=hrel;by_cases ap:k < xs.length
  ·obtain ⟨b,o,ck,Fk,rfl,o9,hbs,hr,bi,hc⟩:=(Sl.ext (w':=wr) (A:=A) (c:=c) h aM).get ap;obtain ⟨jy,ji,Bo,ar,su,b5,gH,kV⟩:=og hr;subst ar;obtain ⟨q0,q1,q2⟩:=oa 3 hc;clear hc;obtain ⟨cS,cO,hs3⟩:=Eo.out xs[k] (List.getElem_mem ..);cases hp:xC labels xs[k] with
   | true =>
     have Gn:=I (amX ap HN.out hp);have HP:=I hp;clear hp;go_wp2_with fail
     refine (abZ labels xs[k] _ _ _ _ _ _ _ (h'.ext bJ) rfl (aJ hr bJ) eZ cS cO hs3).mono ?_;rw [HP.out];rintro e wn ⟨rfl,hn⟩;exact Ef
   | false =>
     have HF:=I (acu ap hp);have HP:=I hp;clear hp;go_wp2_with fail
     refine (abZ labels xs[k] _ _ _ _ _ _ _ (h'.ext bJ) rfl (aJ hr bJ) eZ cS cO hs3).mono ?_;rw [HP.out];rintro e wn ⟨rfl,hn⟩;exact fg
  ·have bz:k = xs.length:=J;subst bz;have hn:=HN.out;rw [List.take_length] at hn;have HF:=I (acv hn);clear hn;exact fg
end Go.Proofs.YtdegaofigemegaaGreat
