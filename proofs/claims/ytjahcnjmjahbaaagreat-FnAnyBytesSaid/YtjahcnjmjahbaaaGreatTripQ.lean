/- What FnSnaps and FnAnyBytes ask, in plain Lean. No condition. -/
import Derived.Test.YtjahcnjmjahbaaaGreatClusterS
namespace Go.Proofs.YtjahcnjmjahbaaaGreat
open Go.ChangeShapes Go.WideShapes Go.ChangeAt Go.RowKit
set_option linter.unusedVariables false
set_option linter.unusedSimpArgs false
set_option maxHeartbeats 8000000
set_option maxRecDepth 100000
theorem jK {n:Int} (h:gl n):(VT n).length<=10:=bM n ⟨by have:=h.1;omega,by have:=h.2;omega⟩
theorem vE {t:ByteArray} (h:(t.size:Int)<=1048576):(ST t).length<=t.size+10:=iJ t J
theorem Vh {α:Type} {f:α->List UInt8} {g:α->Nat} {K c:Nat} : ∀{xs:List α},(∀x∈xs,(f x).length<=K * g x+c)->(xs.flatMap f).length<=K * (xs.map g).sum+c * xs.length
 | [],_=>by simp
 | x :: xs,h=>by
   have h1:=h x (List.mem_cons_self ..);have h2:=Vh (xs:=xs) (λy hy=>h y (List.mem_cons_of_mem _ hy));simp only [List.flatMap_cons,List.length_append,List.map_cons,List.sum_cons,List.length_cons,Nat.mul_add,Nat.mul_one];omega
theorem Rp {α:Type} {f:α->List UInt8} {g:α->Nat} {K:Nat} {xs:List α} (h:∀x∈xs,(f x).length<=K * g x+K):(xs.flatMap f).length<=K * kL g xs:=by
 have:=Vh h;unfold kL;rw [Nat.mul_add];omega
theorem Bi (ls:List ao):LT ls = VT ls.length++ls.flatMap λl=>ST l.key++ST l.value:=by
 show dB (Fe ls) = _;unfold Fe;rw [vc];simp only [rj];rfl
theorem Gq {α:Type} {xs:List α} (h:(xs.length:Int)<=1048576):gl xs.length:=⟨J,J⟩
theorem aGa {ls:List ao} (h:(kL ao.wt ls:Int)<=1048576):(LT ls).length<=10+20 * kL ao.wt ls:=by
 have h0:=gJ ao.wt ls;have h1:=jK (Gq (xs:=ls) J);have h2:(ls.flatMap λl=>ST l.key++ST l.value).length<=20 * kL ao.wt ls:=Rp λl hl=>by
  have h3:=Bq (f:=ao.wt) hl;have e:l.wt = l.key.size+l.value.size:=rfl;have h4:=vE (t:=l.key) J;have h5:=vE (t:=l.value) J;rw [List.length_append];omega
 rw [Bi,List.length_append];omega
theorem aCR {h:az} (hr:Aj h = true):sD h.labels = true/\(0<=h.aw/\0<=h.mem)/\(1<=h.slots/\h.slots<=20)/\((h.aT.length:Int)<=4/\∀t∈h.aT,gl t.effect):=by
 unfold Aj at hr;simp only [Bool.and_eq_true,decide_eq_true_eq] at hr;obtain ⟨⟨⟨⟨_,hl⟩,ht⟩,h5,h6⟩,h7,h8⟩:=hr;obtain ⟨t1,t2⟩:=eB ht;refine ⟨hl,⟨h5,h6⟩,⟨h7,h8⟩,t1,λt hx=>?_⟩;have:=t2 t hx;unfold Dp at this;exact sA
theorem Rr {h:az} (hr:Aj h = true):HT h = ST h.name++(LT h.labels++(VT h.aw++(VT h.mem++(VT h.slots++(VT h.aT.length++h.aT.flatMap λt=>ST t.key++(ST t.value++VT t.effect)))))):=by
 show dB (wS h) = _;unfold wS;rw [if_pos hr];unfold H8;rw [List.take_length,vc];unfold Oe MB;simp only [rj,List.append_assoc];rfl
theorem aDn {h:az} (ho:azJ h) (hw:(h.wt:Int)<=1048576):(HT h).length<=40 * h.wt+60:=by
 obtain ⟨hl,⟨h1,h2⟩,⟨h3,h4⟩,h5,h6⟩:=aCR ho.1;have e:h.wt = h.name.size+kL ao.wt h.labels+kL iU.wt h.aT:=rfl;have g1:=vE (t:=h.name) J;have g2:=aGa (ls:=h.labels) J;have g3:=jK ⟨h1,ho.2.1⟩;have g4:=jK ⟨h2,ho.2.2⟩;have g5:=jK (n:=h.slots) ⟨J,J⟩;have g6:=jK (Gq (xs:=h.aT) J);have g7:(h.aT.flatMap λt=>ST t.key++(ST t.value++VT t.effect)).length<=30 * kL iU.wt h.aT:=Rp λt ht=>by
  have k1:=Bq (f:=iU.wt) ht;have k2:t.wt = t.key.size+t.value.size:=rfl;have k3:=vE (t:=t.key) J;have k4:=vE (t:=t.value) J;have k5:=jK (h6 t ht);simp only [List.length_append];omega
 rw [Rr ho.1];simp only [List.length_append];omega
theorem aDz {p:nI} (hr:GU p = true):sD p.labels = true/\(0<=p.aw/\0<=p.mem)/\(0<=p.av/\p.av<=1000)/\((p.af.length:Int)<=4/\∀t∈p.af,gl t.op)/\((p.ae.length:Int)<=4/\∀t∈p.ae,gl t.effect):=by
 unfold GU at hr;simp only [Bool.and_eq_true,decide_eq_true_eq] at hr;obtain ⟨⟨⟨⟨⟨_,hl⟩,hn⟩,ht⟩,h5,h6⟩,h7,h8⟩:=hr;obtain ⟨t1,t2⟩:=eB ht;obtain ⟨n1,n2⟩:=eB hn;refine ⟨hl,⟨h5,h6⟩,⟨h7,h8⟩,⟨n1,λt hx=>?_⟩,t1,λt hx=>?_⟩
 ·have:=n2 t hx;unfold uh at this;exact sA
 ·have:=t2 t hx;unfold Q5 at this;exact sA
theorem Rs {p:nI} (hr:GU p = true):PT p = ST p.name++(LT p.labels++(VT p.aw++(VT p.mem++(VT p.av++((VT p.af.length++p.af.flatMap λn=>ST n.key++(VT n.op++(VT n.values.length++n.values.flatMap ST)))++(VT p.ae.length++p.ae.flatMap λt=>ST t.key++(VT (rY t.equal)++(ST t.value++VT t.effect)))))))):=by
 show dB (Bg p) = _;unfold Bg;rw [if_pos hr];exact Mk
theorem aDp {p:nI} (ho:Rl p) (hw:(p.wt:Int)<=1048576):(PT p).length<=40 * p.wt+70:=by
 obtain ⟨hl,⟨h1,h2⟩,⟨h3,h4⟩,⟨h5,h6⟩,h7,h8⟩:=aDz ho.1;have e:p.wt = p.name.size+kL ao.wt p.labels+kL aE.wt p.af+kL bH.wt p.ae:=rfl;have g1:=vE (t:=p.name) J;have g2:=aGa (ls:=p.labels) J;have g3:=jK ⟨h1,ho.2.1⟩;have g4:=jK ⟨h2,ho.2.2⟩;have g5:=jK (n:=p.av) ⟨J,J⟩;have g6:=jK (Gq (xs:=p.af) J);have g8:=jK (Gq (xs:=p.ae) J);have g7:(p.af.flatMap λn=>ST n.key++(VT n.op++(VT n.values.length++n.values.flatMap ST))).length<=40 * kL aE.wt p.af:=Rp λn hn=>by
  have k1:=Bq (f:=aE.wt) hn;have k2:n.wt = n.key.size+kL ByteArray.size n.values:=rfl;have k3:=vE (t:=n.key) J;have k4:=jK (h6 n hn);have k5:=gJ ByteArray.size n.values;have k6:=jK (Gq (xs:=n.values) J);have k7:(n.values.flatMap ST).length<=10 * kL ByteArray.size n.values:=Rp λv hv=>by
   have j1:=Bq (f:=ByteArray.size) hv;have j2:=vE (t:=v) J;omega
  simp only [List.length_append];omega
 have g9:(p.ae.flatMap λt=>ST t.key++(VT (rY t.equal)++(ST t.value++VT t.effect))).length<=40 * kL bH.wt p.ae:=Rp λt ht=>by
  have k1:=Bq (f:=bH.wt) ht;have k2:t.wt = t.key.size+t.value.size:=rfl;have k3:=vE (t:=t.key) J;have k4:=vE (t:=t.value) J;have k5:=jK (h8 t ht);have k6:=jK (n:=rY t.equal) (by cases t.equal <;> exact ⟨by decide,by decide⟩);simp only [List.length_append];omega
 rw [Rs ho.1];simp only [List.length_append];omega
theorem aAc {x:aU} (G:Good x):Names x.aa:=⟨λh hh=>aJ2 (YR (G.ft h hh)),G.hs.imp λ{a b} h=>YS h⟩
structure uc (x:aU):Prop where
 h:∀h∈x.aa,h.aw<=9223372036854775807/\h.mem<=9223372036854775807
 p:∀p∈x.O,p.aS.aw<=9223372036854775807/\p.aS.mem<=9223372036854775807
theorem aDM {w:World} {x:aU} {cs:List Value} {F:List Nat} (h:rd w x cs F):uc x:=by
 obtain ⟨A1,c1,F1,A2,c2,F2,_,_,h1,h2,_⟩:=aO h;refine ⟨λh hh=>?_,λp hp=>?_⟩
 ·obtain ⟨k,hk,rfl⟩:=List.getElem_of_mem hh;obtain ⟨_,_,_,_,_,_,_,hr,_,_⟩:=h1.get hk;obtain ⟨_,_,_,_,_,_,_,_,_,_,a,b,_⟩:=iy hr;exact ⟨by unfold aR at a;omega,by unfold aR at b;omega⟩
 ·obtain ⟨k,hk,rfl⟩:=List.getElem_of_mem hp;obtain ⟨_,_,_,_,_,_,_,hr,_,_⟩:=h2.get hk;obtain ⟨_,_,_,_,_,_,_,_,_,_,_,_,_,a,b,_⟩:=kE hr;exact ⟨by unfold aR at a;omega,by unfold aR at b;omega⟩
theorem aA7 {x:aU} (G:Good x) (N:uc x):Rm x:=by
 have hw:=G.wt;unfold zL at hw;simp only [Bool.and_eq_true,decide_eq_true_eq] at hw;obtain ⟨⟨⟨a1,a2⟩,b1,b2⟩,c1,c2⟩:=hw;have n1:=G.n1;have n2:=G.n2;have h8:=G.h8;have yn:=G.yn;refine ⟨⟨⟨a1,J⟩,⟨b1,J⟩,⟨c1,J⟩,⟨J,J⟩,J,λh hh=>⟨G.ft h hh,N.h h hh⟩⟩,J,λp hp=>⟨⟨G.rR p hp,N.p p hp⟩,G.vq p hp,?_⟩⟩;have:=G.vp p hp;exact ⟨J,J⟩
theorem aIG {x:aU} (h:iI x = true):dB (JC x) = CT x:=by
 unfold JC;rw [if_pos h];unfold Ig;rw [List.take_length,vc];unfold RY zn;rw [List.take_length,rj,vc];unfold UR I9 Bb CT;simp only [rj,List.append_assoc];rfl
theorem Gx {x:aU} (G:Good x) (N:uc x):(CT x).length<=802000:=by
 have hw:=Us G;have e:x.wt = kL az.wt x.aa+kL ag.wt x.O:=rfl;obtain ⟨⟨h1,h2,h3,h4,h5,h6⟩,h7,h8⟩:=aA7 G N;have g1:=jK h1;have g2:=jK h2;have g3:=jK h3;have g4:=jK h4;have g5:=jK (Gq (xs:=x.aa) J);have g6:=jK (Gq (xs:=x.O) J);have g7:(x.aa.flatMap HT).length<=40 * (x.aa.map az.wt).sum+60 * x.aa.length:=Vh λh hh=>aDn (h6 h hh) (by have:=Bq (f:=az.wt) hh;omega);have g8:(x.O.flatMap (Vg x.aa)).length<=40 * (x.O.map ag.wt).sum+90 * x.O.length:=Vh λp hp=>by
  obtain ⟨k1,k2,k3⟩:=h8 p hp;have j1:=Bq (f:=ag.wt) hp;have j2:p.wt = p.aS.wt+p.on.size:=rfl;have j3:=aDp k1 J;have j4:=jK k3;have j5:(VT (1+pK (iM p.on) x.aa)).length<=10:=by have i1:=Nc (p:=iM p.on) x.aa;exact jK ⟨J,J⟩
  unfold Vg;simp only [List.length_append];omega
 unfold kL at e;unfold CT;simp only [List.length_append];omega
theorem Rv {n:Int} (h:0<=n):VT n≠[]:=by show dB (jD n)≠[];rw [Bf h];exact aBH _
theorem Gz {x:aU} (G:Good x):0 < (CT x).length:=by
 have hw:=G.wt;unfold zL at hw;simp only [Bool.and_eq_true,decide_eq_true_eq] at hw;have h:=List.length_pos_iff.2 (Rv hw.1.1.1);unfold CT;simp only [List.length_append];omega
theorem aJA {s:ByteArray} (hs:(s.size:Int)<=1048576) (h:(zh s).2 = true):Good (zh s).1/\uc (zh s).1/\dB s = CT (zh s).1:=by
 unfold zh at h |-;split
 ·rename_i hc;dsimp only;have G:=(PQ (RQ s).1).1 hc.2;obtain ⟨o,l,e⟩:=(aCO s hs (aAc G) (RQ s).2).1 ⟨rfl,by rw [hc.1];omega⟩;refine ⟨G,⟨λh hh=>(o.1.2.2.2.2.2 h hh).2,λp hp=>(o.2.2 p hp).1.2⟩,?_⟩;have l':CT (RQ s).1 <+: dB s:=l;refine (List.IsPrefix.eq_of_length l' ?_).symm;have:(dB s).length = s.size:=rfl;omega
 ·rename_i hc;rw [if_neg hc] at h;cases h
theorem aAl {s:ByteArray} (hs:(s.size:Int)<=1048576) (h:(zh s).2 = true):Good (zh s).1/\JC (zh s).1 = s:=by
 obtain ⟨G,N,e⟩:=aJA hs h;exact ⟨G,aD2 (by rw [aIG ((PQ _).2 G),e])⟩
theorem aJX {s:ByteArray} (h:(zh s).2 = false):(zh s).1 = nX:=by
 unfold zh at h |-;split
 ·rename_i hc;rw [if_pos hc] at h;cases h
 ·rfl
theorem aIn {x:aU} (G:Good x) (N:uc x):0 < (JC x).size/\(JC x).size<=802000:=by
 have h1:=Gx G N;have h2:=Gz G;have e:(CT x).length = (JC x).size:=by rw [<- aIG ((PQ x).2 G)];rfl
 omega
theorem M4 (W:World) (e:TypeId) (xs:Array Value) (k:Nat) (u:Value) (h:xs[k]? = some u):(W.alloc (.cells xs e)).cell? ⟨W.heap.size,k,none⟩ = some u:=by
 rw [cell_of_row _ _ _ _ _ _ (heap_alloc_new W _)];exact h
theorem ai.drawn {α:Type} [bd α] {w w':World} {B c:Nat} {x:α} {cs:List Value} {F:List Nat} (h:ai w B x cs F) (hu:nN [c] w w') (hc:c < B):ai w' B x cs F :=
 hu.own h (λb hb hm=>by have:=h.base b hb;rw [List.mem_singleton] at hm;omega)
theorem Uu (w:World) (c:Nat) (A:Option Addr) (n cap:Nat) (h:cj w c A n cap) :
 Calls Tryz.prog 214 #[.pointer (some ⟨c,0,none⟩)] w λe w'=>∃s:ByteArray,e = .returned (.string s)/\(s.size<=8)/\cj w' c A n cap/\nN [c] w w':=by
 have am:=h.lt;have HC:=I h;clear h;go_enter Tryz.func214,Tryz.ntmps214;go_wp2_with fail
 refine (YJ (λs=>s.size<=8) w.heap.size 6 _ J _ c A n cap (HC.out.ext (ak (aj _) _)) J S' (λk hk=>?_)).mono ?_
 ·exact M3
 rintro e w1 ⟨s,rfl,hs,H1,hu⟩;replace H1:=I H1;replace hu:=(nN.lq [c] (ak (aj w) _)).trans hu;go_wp2;go_ret
 exact ⟨s,rfl,hs,H1.out,hu⟩
theorem Uv (w:World) (c:Nat) (A:Option Addr) (n cap:Nat) (h:cj w c A n cap) :
 Calls Tryz.prog 215 #[.pointer (some ⟨c,0,none⟩)] w λe w'=>∃s:ByteArray,e = .returned (.string s)/\(s.size<=8)/\cj w' c A n cap/\nN [c] w w':=by
 have am:=h.lt;have HC:=I h;clear h;go_enter Tryz.func215,Tryz.ntmps215;go_wp2_with fail
 refine (YJ (λs=>s.size<=8) w.heap.size 6 _ J _ c A n cap (HC.out.ext (ak (aj _) _)) J S' (λk hk=>?_)).mono ?_
 ·exact M3
 rintro e w1 ⟨s,rfl,hs,H1,hu⟩;replace H1:=I H1;replace hu:=(nN.lq [c] (ak (aj w) _)).trans hu;go_wp2;go_ret
 exact ⟨s,rfl,hs,H1.out,hu⟩
theorem pn (w:World) (c:Nat) (A:Option Addr) (n cap:Nat) (h:cj w c A n cap) :
 Calls Tryz.prog 115 #[.pointer (some ⟨c,0,none⟩)] w λe w'=>∃s:ByteArray,e = .returned (.string s)/\((s.size<=8/\s≠⟨#[110,111,119,104,101,114,101]⟩)/\Qs s = true)/\cj w' c A n cap/\nN [c] w w':=by
 have am:=h.lt;have HC:=I h;clear h;go_enter Tryz.func115,Tryz.ntmps115;go_wp2_with fail
 refine (YJ (λs=>(s.size<=8/\s≠⟨#[110,111,119,104,101,114,101]⟩)/\Qs s = true) w.heap.size 7 _ J _ c A n cap (HC.out.ext (ak (aj _) _)) J S' (λk hk=>?_)).mono ?_
 ·have pS:k = 0∨k = 1∨k = 2∨k = 3∨k = 4∨k = 5∨k = 6:=by omega
  rcases pS with rfl | rfl | rfl | rfl | rfl | rfl | rfl <;> exact ⟨_,M4 _ _ _ _ _ rfl,by decide +kernel⟩
 rintro e w1 ⟨s,rfl,hs,H1,hu⟩;replace H1:=I H1;replace hu:=(nN.lq [c] (ak (aj w) _)).trans hu;go_wp2;go_ret
 exact ⟨s,rfl,hs,H1.out,hu⟩
theorem aAO (w:World) (c:Nat) (A:Option Addr) (n cap:Nat) (h:cj w c A n cap) :
 Calls Tryz.prog 115 #[.pointer (some ⟨c,0,none⟩)] w λe w'=>∃s:ByteArray,e = .returned (.string s)/\(s.size<=8/\s≠⟨#[110,111,119,104,101,114,101]⟩)/\cj w' c A n cap/\nN [c] w w' :=
 (pn w c A n cap h).mono λ_ _ ⟨s,a,b,d⟩=>⟨s,a,b.1,d⟩
theorem ayu (w:World) (c:Nat) (A:Option Addr) (n cap:Nat) (h:cj w c A n cap) :
 Calls Tryz.prog 191 #[.pointer (some ⟨c,0,none⟩)] w λe w'=>∃s:Int,e = .returned (.int .i64 s)/\(0<=s/\s<=1024000)/\cj w' c A n cap/\nN [c] w w':=by
 have am:=h.lt;have HC:=I h;clear h;go_enter Tryz.func191,Tryz.ntmps191;go_wp2_with fail
 refine (YK (λs=>0<=s/\s<=1024000) w.heap.size 9 _ J _ c A n cap (HC.out.ext (ak (aj _) _)) J S' (λk hk=>?_)).mono ?_
 ·have pS:k = 0∨k = 1∨k = 2∨k = 3∨k = 4∨k = 5∨k = 6∨k = 7∨k = 8:=by omega
  rcases pS with rfl | rfl | rfl | rfl | rfl | rfl | rfl | rfl | rfl <;> exact ⟨_,M4 _ _ _ _ _ rfl,J⟩
 rintro e w1 ⟨s,rfl,hs,H1,hu⟩;replace H1:=I H1;replace hu:=(nN.lq [c] (ak (aj w) _)).trans hu;go_wp2;go_ret
 exact ⟨s,rfl,hs,H1.out,hu⟩
theorem nN.new {F:List Nat} {w w1:World} (h:nN F w w1) {b:Nat} (hb:w.heap.size<=b) (i:Nat) (u:Value):nN F w (w1.setCell ⟨b,i,none⟩ u) :=
 ⟨h.os,h.tape,h.output,by simp [World.setCell];exact h.size,λk hk hn=>(Below.heap_setCell _ _ _ _ bv).trans (h.block k hk hn)⟩
theorem aC9 (w:World) (c:Nat) (A:Option Addr) (n cap:Nat) (h:cj w c A n cap) :
 Calls Tryz.prog 218 #[.pointer (some ⟨c,0,none⟩)] w λe w'=>∃x:iU,e = .returned (.agg #[.string x.key,.string x.value,.int .i64 x.effect])/\(x.key.size<=8/\x.value.size<=8/\1<=x.effect/\x.effect<=2)/\cj w' c A n cap/\nN [c] w w':=by
 have am:=h.lt;have HC:=I h;clear h;go_enter Tryz.func218,Tryz.ntmps218;go_wp2_with fail
 refine (Uu _ c A n cap (HC.out.ext (ak (aj _) _))).mono ?_;rintro e w1 ⟨s1,rfl,cF,H1,hu1⟩;replace H1:=I H1;go_wp2_with fail
 refine (Uv _ c A n cap H1.out).mono ?_;rintro e w2 ⟨s2,rfl,cC,H2,ca⟩;replace H2:=I H2;go_wp2_with fail
 refine (lk 2 J _ c A n cap H2.out).mono ?_;rintro e w3 ⟨r,rfl,hr,H3,bJ⟩;replace H3:=I H3;have B0:=oG.new w [.string ⟨#[]⟩,.string ⟨#[]⟩,.int .i64 0] 84;have B3:=((B0.bE hu1 J).bE ca J).bE bJ J;have q0:=B3.cell (i:=0) rfl;have q1:=B3.cell (i:=1) rfl;have q2:=B3.cell (i:=2) rfl;have f0:=B3.fz 0;have f1:=B3.fz 1;have f2:=B3.fz 2;clear B0 B3;go_wp2;refine bodyPost_ret (v:=.agg #[.string s1,.string s2,.int .i64 (1+r)]) (by simp [results,Tryz.results218,go_sem, *]) rfl ?_;exact ⟨⟨s1,s2,1+r⟩,rfl,⟨cF,cC,by dsimp only;omega,by dsimp only;omega⟩,((H3.out.br am 0 _).br am 1 _).br am 2 _,((((((nN.lq [c] (ak (aj w) _)).trans hu1).trans ca).trans bJ).new (Nat.le_refl _) 0 _).new (Nat.le_refl _) 1 _).new (Nat.le_refl _) 2 _⟩
theorem azF (w:World) (c:Nat) (A:Option Addr) (n cap:Nat) (h:cj w c A n cap) :
 Calls Tryz.prog 217 #[.pointer (some ⟨c,0,none⟩)] w λe w'=>∃x:bH,e = .returned (.agg #[.string x.key,.bool x.equal,.string x.value,.int .i64 x.effect])/\(x.key.size<=8/\x.value.size<=8/\0<=x.effect/\x.effect<=2)/\cj w' c A n cap/\nN [c] w w':=by
 have am:=h.lt;have HC:=I h;clear h;go_enter Tryz.func217,Tryz.ntmps217;go_wp2_with fail
 refine (Uu _ c A n cap (HC.out.ext (ak (aj _) _))).mono ?_;rintro e w1 ⟨s1,rfl,cF,H1,hu1⟩;replace H1:=I H1;go_wp2_with fail
 refine (lk 3 J _ c A n cap H1.out).mono ?_;rintro e w2 ⟨r,rfl,hr,H2,ca⟩;replace H2:=I H2;have X0:=oG.new w [.string ⟨#[]⟩,.bool false,.string ⟨#[]⟩,.int .i64 0] 91;have X2:=(X0.bE hu1 J).bE ca J;have cG:=hu1.size;have cr:=ca.size;simp at cG;have bX:=H2.out.lt;have U2:=I (((nN.lq [c] (ak (aj w) _)).trans hu1).trans ca);have Y2:=oG.new w2 [.string s1,.bool false,.string ⟨#[]⟩,.int .i64 r] 91;replace X2:=X2.ext (ak (aj _) (.cells [.string s1,.bool false,.string ⟨#[]⟩,.int .i64 r].toArray 91));replace U2:=I (U2.out.alloc (.cells #[.string s1,.bool false,.string ⟨#[]⟩,.int .i64 r] 91));clear X0 hu1 ca;go_wp2_with fail
 refine (Ao 2 J _ c A n cap (H2.out.ext (ak (aj _) _))).mono ?_;rintro e w3 ⟨b,rfl,H3,bJ⟩;replace H3:=I H3;have X3:=X2.bE bJ J;have Y3:=Y2.bE bJ J;have U3:=I (U2.out.trans bJ);have eN:=bJ.size;simp at eN;clear X2 Y2 bJ U2;cases b
 ·obtain ⟨YV,aB7,aB8,aB9,aCa,aCb,aCc,aCd⟩:=Iu Y3;go_wp2_with fail
  refine (Ao 3 J _ c A n cap H3.out).mono ?_;rintro e w4 ⟨b,rfl,H4,Td⟩;replace H4:=I H4;have X4:=X3.bE Td J;have Y4:=Y3.bE Td J;have U4:=I (U3.out.trans Td);clear YV aB7 aB8 aB9 aCa aCb aCc aCd;clear X3 Y3 Td U3;obtain ⟨PV,fX4_0,kX4_1,fX4_1,kX4_2,fX4_2,kX4_3,fX4_3⟩:=Iu X4;obtain ⟨aFe,aFf,aFg,aFh,aFi,aFj,aFk,aFl⟩:=Iu Y4;cases b
  ·go_wp2;refine bodyPost_ret (v:=.agg #[.string s1,.bool false,.string ⟨#[]⟩,.int .i64 r]) (by simp [results,Tryz.results217,go_sem, *]) rfl ?_;exact ⟨⟨s1,false,⟨#[]⟩,r⟩,rfl,⟨cF,Nat.zero_le _,by dsimp only;omega,by dsimp only;omega⟩,((((H4.out.br am 0 _).br am 1 _).br am 2 _).br am 3 _),((((U4.out.new (Nat.le_refl _) 0 _).new (Nat.le_refl _) 1 _).new (Nat.le_refl _) 2 _).new (Nat.le_refl _) 3 _)⟩
  ·go_wp2;refine bodyPost_ret (v:=.agg #[.string ⟨#[]⟩,.bool false,.string ⟨#[]⟩,.int .i64 r]) (by simp [results,Tryz.results217,go_sem, *]) rfl ?_;exact ⟨⟨⟨#[]⟩,false,⟨#[]⟩,r⟩,rfl,⟨Nat.zero_le _,Nat.zero_le _,by dsimp only;omega,by dsimp only;omega⟩,(((((H4.out.br J 0 _).br am 0 _).br am 1 _).br am 2 _).br am 3 _),(((((U4.out.new J 0 _).new (Nat.le_refl _) 0 _).new (Nat.le_refl _) 1 _).new (Nat.le_refl _) 2 _).new (Nat.le_refl _) 3 _)⟩
 ·obtain ⟨YV,aB7,aB8,aB9,aCa,aCb,aCc,aCd⟩:=Iu Y3;go_wp2_with fail
  refine (Uv _ c A n cap (H3.out.br J 1 _)).mono ?_;rintro e w4 ⟨s2,rfl,cC,H4,Td⟩;replace H4:=I H4;have X4:=(X3.br J 1 _).bE Td J;have Y4:=(Y3.put 1 _).bE Td J;have U4:=I ((U3.out.new J 1 _).trans Td);clear YV aB7 aB8 aB9 aCa aCb aCc aCd;clear X3 Y3 Td U3;obtain ⟨PV,fX4_0,kX4_1,fX4_1,kX4_2,fX4_2,kX4_3,fX4_3⟩:=Iu X4;obtain ⟨aFe,aFf,aFg,aFh,aFi,aFj,aFk,aFl⟩:=Iu Y4;go_wp2;refine bodyPost_ret (v:=.agg #[.string s1,.bool true,.string s2,.int .i64 r]) (by simp [results,Tryz.results217,go_sem, *]) rfl ?_;exact ⟨⟨s1,true,s2,r⟩,rfl,⟨cF,cC,by dsimp only;omega,by dsimp only;omega⟩,(((((H4.out.br J 2 _).br am 0 _).br am 1 _).br am 2 _).br am 3 _),(((((U4.out.new J 2 _).new (Nat.le_refl _) 0 _).new (Nat.le_refl _) 1 _).new (Nat.le_refl _) 2 _).new (Nat.le_refl _) 3 _)⟩
theorem aEq:(Tryz.prog.info? 89).map (λi=>(i.zero,i.size,i.bytes)) = some (some (.agg #[.string ⟨#[]⟩,.int .i64 0,.slice none 0 0]),3,48):=by kernel_rfl
theorem vR:DL Tryz.prog 43 89 (.agg #[.string ⟨#[]⟩,.int .i64 0,.slice none 0 0]) 3 48:=⟨Tryz.underlying43,aEq,rfl,J⟩
theorem aD0 {β:Type} {lt:β->β->Bool} {y:β} {SS:List β} {jj:Nat} (hN:∀j (hj:j < SS.length),j < jj->lt SS[j] y = true) (hj:jj<=SS.length) (hs:∀h:jj < SS.length,lt SS[jj] y = false/\lt y SS[jj] = true):eM lt y SS = fL jj y SS:=by
 have e:SS = SS.take jj++SS.drop jj:=(List.take_append_drop jj SS).symm;have hn:∀z∈SS.take jj,lt z y = true:=λz hz=>by
  exact Nq
 unfold fL;conv=>lhs;rw [e]
 by_cases h:jj < SS.length
 ·obtain ⟨h1,h2⟩:=hs h;rw [List.drop_eq_getElem_cons h];exact Sh _ _ hn h1 h2
 ·rw [List.drop_eq_nil_of_le J];exact Sg _ hn
theorem aF3 {β:Type} {lt:β->β->Bool} {y:β} {SS:List β} {jj:Nat} (hN:∀j (hj:j < SS.length),j < jj->lt SS[j] y = true) (hj:jj < SS.length) (h1:lt SS[jj] y = false) (h2:lt y SS[jj] = false):eM lt y SS = SS:=by
 have e:SS = SS.take jj++SS[jj] :: SS.drop (jj+1):=by rw [List.getElem_cons_drop,List.take_append_drop]
 have hn:∀z∈SS.take jj,lt z y = true:=λz hz=>by
  exact Nq
 conv=>lhs;rw [e]
 conv=>rhs;rw [e]
 exact Sk _ _ hn h1 h2
theorem aCJ (xs:List aE) (y:aE):kA (xs++[y]) = eM nD (oB y) (kA xs):=by unfold kA;rw [List.map_append];exact Jt _ _ _ _
theorem aJV (xs:List aE) (A:Option Addr) (c:Nat) (F:List Nat) (w:World) (h:Sl w xs A c F) (hl:(xs.length:Int)<=1048576) (cR:∀l∈xs,(l.wt:Int)<=1048576) :
 Calls Tryz.prog 211 #[.slice A xs.length c] w λe w'=>∃A' c' G,e = .returned (.tuple #[.slice A' (ke xs).1.length c',.bool (ke xs).2])/\ai w' w.heap.size (ke xs).1 [.slice A' (ke xs).1.length c'] G/\Below w.heap.size w w'/\((ke xs).2 = true->eK w' w.heap.size 89 3 A' c'):=by
 have hv:∀x∈xs,(x.values.length:Int)<=1048576:=λx hx=>by
  have h1:=cR x hx;have h2:aE.wt x = x.key.size+kL ByteArray.size x.values:=rfl;have h3:=gJ ByteArray.size x.values;omega
 have Eo:=I cR;have HV:=I hv;clear cR hv;by_cases rI:xs.length<=40
 ·go_enter Tryz.func211,Tryz.ntmps211;go_wp2_with fail
  go_loopw [4,5] (λv i wr=>∃(k N g cap:Nat) (ds:List Value) (G:List Nat),k<=xs.length/\N<=k/\i = .int .i64 (k:Int)/\v = .slice (some ⟨g,0,none⟩) N cap/\Hid ((kA (xs.take k)).length = N)/\Hid (∀j (hj:j < xs.length),j < k->xs[j].values.length<=40)/\Hid (wr.ownsRow w.heap.size 89 3 (.slice (some ⟨g,0,none⟩) N cap) N ds)/\Hid (aY wr w.heap.size (kA (xs.take k)) ds G)/\Hid (g∉G)/\Below w.heap.size w wr) (λ_ i _=>xs.length - (intOf i).toNat)
  case atStart=>exact ⟨0,0,w.heap.size,0,[],[],J,Nat.le_refl _,rfl,rfl,I rfl,I (λj _ hj=>by omega),I (D9 w 89 3 w.heap.size rfl),I (aY.nil _ _),I S',ak (aj _) _⟩
  case round =>
   obtain ⟨k,N,g,cap,ds,G,hk,hNk,rfl,rfl,cP,HW40,aCK,HOC0,HGG,ax⟩:=hrel;by_cases am:k < xs.length
   ·obtain ⟨b,o,ck,Fk,hA,o9,hbs,hr,bm,hcells⟩:=(h.ext ax).get am;subst hA;obtain ⟨Ax,cx,Fx,aq,su,b9,hop,kV⟩:=og hr;subst aq;obtain ⟨q0,q1,q2⟩:=iX 3 hcells;have gF:=HV.out xs[k] (List.getElem_mem ..);clear hcells su hr bm;by_cases hv40:xs[k].values.length<=40
    ·obtain ⟨wp,Ey⟩:∃wp,wp = wr:=⟨_,rfl⟩;subst Ey;have fv:=Eo.out xs[k] (List.getElem_mem ..);have Yy:=I (Yr (x:=xs[k]) J);go_wp2_with fail
     refine (aAw xs[k].values Ax cx Fx _ (kV.ext bc) gF).mono ?_;rintro e w5 ⟨Ay,cy,Gy,rfl,hOv,bj⟩;have IH:oG (wp.alloc (.cells #[.string xs[k].key,.int .i64 xs[k].op,.slice Ax xs[k].values.length cx] 89)) wp.heap.size [.string xs[k].key,.int .i64 xs[k].op,.slice Ax xs[k].values.length cx]:=oG.new wp _ _;have vn:=IH.ext bj;have PD:Below wp.heap.size wp w5:=ah (ak (aj _) _) bj;have hl5:=vn.lt;have kD:=vn.fz;obtain ⟨e0,e1,e2⟩:=OS vn;have PF:=vn.put 2 (.slice Ay (gj xs[k].values).length cy);have IK:ai (w5.setCell ⟨wp.heap.size,2,none⟩ (.slice Ay (gj xs[k].values).length cy)) w.heap.size (oB xs[k]) [.string xs[k].key,.int .i64 xs[k].op,.slice Ay (gj xs[k].values).length cy] Gy:=by refine ai.up (B':=w.heap.size) (λx:aE=>(x.key,x.op,x.values)) ?_ (Nat.le_refl _);refine ai.cons (c1:=[.string xs[k].key]) (rdStr _ _ (rV b9)) ?_;refine ai.cons (c1:=[.int .i64 xs[k].op]) (jL _ _ hop) ?_;exact (hOv.setCell (p:=⟨wp.heap.size,2,none⟩) S' _).mono Tm
     have MV:∀y∈Gy,wp.heap.size < y:=λy hy=>by have:=hOv.base y hy;simp at this;omega
     have qv:Below wp.heap.size wp (w5.setCell ⟨wp.heap.size,2,none⟩ (.slice Ay (gj xs[k].values).length cy)):=aC (p:=⟨wp.heap.size,2,none⟩) PD (Nat.le_refl _) _;obtain ⟨w6,hw6⟩:∃w6,w5.setCell ⟨wp.heap.size,2,none⟩ (.slice Ay (gj xs[k].values).length cy) = w6:=⟨_,rfl⟩;rw [hw6] at PF IK qv;have HW6:=I hw6;have dC:kA (xs.take (k+1)) = eM nD (oB xs[k]) (kA (xs.take k)):=(by rw [List.take_succ_eq_append_getElem am,aCJ]);have Jf:=I dC;have b8:∀z∈kA (xs.take k),(z.values.length:Int)<=1048576:=λz hz=>by
      obtain ⟨x,hx,rfl⟩:=az4 hz;exact (Yr (by have:=Eo.out x (List.mem_of_mem_take hx);omega)).2.1
     have Yz:=I b8;obtain ⟨g1,g2,g3,_⟩:=IE aCK.out;have HDJ:=I (show ∀y∈G,y∉Gy from λy hy hm=>by have:=HOC0.out.lt y hy;have:=MV y hm;omega);have Ak:=I (mG aCK.out qv);have yj:=I (HOC0.out.ext qv);have PH:=I (show Below w.heap.size w w6 from ah ax qv);have tw:=I PF;have tx:=I IK;have uQ:=qv.size;clear hw6 PF IK dC b8 hOv IH PD kV b9 hop;go_wp2_with fail
     rw [HW6.out];clear HW6 vn hl5 kD e0 e1 e2 q0 q1 q2 qv;obtain ⟨nb,PI⟩:∃nb,wp.heap.size = nb:=⟨_,rfl⟩;rw [PI] at tw uQ g2 MV |-;obtain ⟨y,hy⟩:∃y,oB xs[k] = y:=⟨_,rfl⟩;have tz:xs[k].key = y.key:=(by rw [<- hy];rfl);have ES:xs[k].op = y.op:=(by rw [<- hy];rfl);have hyv:gj xs[k].values = y.values:=(by rw [<- hy];rfl);rw [hy] at Jf Yy tx;rw [tz,ES,hyv] at tx tw;have HVY:=I Yy.out.2.1;clear Yy hy tz ES hyv fv gF Eo;generalize kA (xs.take k) = SS at *;have Ty:=I (show ds.length = N * 3 by have:=yj.out.rd.len;rw [this,cP.out];rfl);have jk:=I (show ∀u∈ds,u.oneCell' = true from yj.out.rd.one);have ki:=I (bd.one tx.out.rd);have mW:nb < w6.heap.size:=tw.out.lt;have vo:g < w6.heap.size:=J;obtain ⟨wo,hwo⟩:∃wo,wo = w6:=⟨_,rfl⟩;subst hwo;have gO:=Ak;have mm:=yj;have e9:=PH;have i7:=tw;have IM:=tx;clear Ak yj PH tw tx aCK HOC0 ax;go_wp2_with fail
     go_loopw [7] (λj wr=>∃jj:Nat,jj<=N/\j = .int .i64 (jj:Int)/\Hid (∀j (hj:j < SS.length),j < jj->nD SS[j] y = true)/\Below wo.heap.size wo wr) (λj _=>N - (intOf j).toNat)
     case atStart=>exact ⟨0,J,rfl,I (λj _ hj=>by omega),aj _⟩
     case round =>
      obtain ⟨jj,hjN,rfl,HN,bL⟩:=hrel;have lj:=i7.out.ext bL;have k0:wr.cell? ⟨nb,0,none⟩ = some (.string y.key):=lj.cell (i:=0) (u:=.string y.key) rfl;have k1:wr.cell? ⟨nb,1,none⟩ = some (.int .i64 y.op):=lj.cell (i:=1) (u:=.int .i64 y.op) rfl;have k2:wr.cell? ⟨nb,2,none⟩ = some (.slice Ay y.values.length cy):=lj.cell (i:=2) (u:=.slice Ay y.values.length cy) rfl;have om:nb < wr.heap.size:=lj.lt;have mR:g < wr.heap.size:=(by have:=bL.size;omega);have re:=I bL;have C3:=I IM.out.rd;clear lj;by_cases fe:jj < N
      ·have Ui:jj < SS.length:=(by rw [cP.out];exact fe);obtain ⟨d1,cz,d2,G1,Fz,G2,EH,hG,_,hrz,_,xm⟩:=mm.out.rd.split Ui;obtain ⟨Az,cz3,Fz3,hcz,hFz,hkz,hoz,ET⟩:=og hrz;subst hcz;have YA:d1.length = jj * 3:=xm;obtain ⟨z,hz⟩:∃z,SS[jj] = z:=⟨_,rfl⟩;rw [hz] at hrz EH;have zc:∀i u,([.string z.key,.int .i64 z.op,.slice Az z.values.length cz3]:List Value)[i]? = some u->wr.cell? ⟨g,jj * 3+i,none⟩ = some u:=λi u hi=>by
        obtain ⟨_,h9,_,hc9⟩:=IE gO.out;have:=hc9 (jj * 3+i) u (by rw [EH,List.getElem?_append_right J,List.getElem?_append_left (by have:=(List.getElem?_eq_some_iff.1 hi).1;simp only [List.length_cons,List.length_nil] at this |-;omega),show jj * 3+i - d1.length = i by omega];exact hi);exact (bL.cell (p:=⟨g,jj * 3+i,none⟩) h9).trans this
       have z0:wr.cell? ⟨g,jj * 3,none⟩ = some (.string z.key):=zc 0 _ rfl;have z1:wr.cell? ⟨g,jj * 3+1,none⟩ = some (.int .i64 z.op):=zc 1 _ rfl;have z2:wr.cell? ⟨g,jj * 3+2,none⟩ = some (.slice Az z.values.length cz3):=zc 2 _ rfl;have HRZ:=I hrz;have HVZ:=I (Yz.out z (by rw [<- hz];exact List.getElem_mem ..));have HZ:=I hz;have qm:decide ((jj:Int) < (N:Int)) = true:=(by simp;omega);clear zc hrz EH hG xm YA hz hkz hoz ET hFz;cases hL:nD z y with
       | true =>
         have HL:=I hL;clear hL;go_wp2_with fail
         refine aF wr U' U' (aj _) ?_
         repeat ((first | refine aG J' ?_ | refine aH _ J' LV ?_);simp only [Act.put,pz])
         refine aN ?_;intro wn hn;replace hn:=hn.out;go_wp2;refine ⟨⟨jj+1,J,N',I (λj hj hjj=>?_),ah re.out hn⟩,by simp [intOf];omega⟩;rcases Nat.lt_or_ge j jj with h9 | h9
         ·exact HN.out j hj h9
         ·have:j = jj:=J;subst this;rw [HZ.out];exact HL.out
       | false =>
         have HL:=I hL;clear hL;go_wp2_with fail
         refine aF wr U' U' (aj _) ?_
         repeat ((first | refine aG J' ?_ | refine aH _ J' LV ?_);simp only [Act.put,pz])
         refine aN ?_;intro wm hn;replace hn:=hn.out;have gC:=HL;have ij:Below wo.heap.size wo wm:=ah bL hn;have ik:g < wm.heap.size:=(by have:=hn.size;omega);have il:nb < wm.heap.size:=(by have:=hn.size;omega);replace k0:=r' hn k0 er;replace k1:=r' hn k1 er;replace k2:=r' hn k2 er;replace z0:=r' hn z0 sK;replace z1:=r' hn z1 sK;replace z2:=r' hn z2 sK;clear bL hn re HL;obtain ⟨bL,om,mR⟩:Below wo.heap.size wo wm/\nb < wm.heap.size/\g < wm.heap.size:=⟨ij,il,ik⟩;clear ij il ik;have re:=I bL;cases hM:nD y z with
         | false =>
           have HL:=I hM;clear hM;have HI:=I (show eM nD y SS = SS from aF3 HN.out Ui (by rw [HZ.out];exact gC.out) (by rw [HZ.out];exact HL.out));go_wp2_with fail
           refine aF wm U' U' (aj _) ?_
           repeat ((first | refine aG J' ?_ | refine aH _ J' LO ?_);simp only [Act.put,pz])
           refine aN ?_;intro wn hn;replace hn:=hn.out;go_wp2;have bb:=ah re.out hn;refine ⟨⟨k+1,N,g,cap,ds,G,J,J,N',rfl,I aHa,I (λj hj n9=>?_),I (mG gO.out bb),I (by rw [Jf.out,HI.out];exact mm.out.ext bb),HGG,e9.out.trans (bb.mono e9.out.size)⟩,by simp [intOf];omega⟩;exact Ln
         | true =>
           have HL:=I hM;clear hM;have HI:=I (show eM nD y SS = fL jj y SS from aD0 HN.out J (λ_=>by rw [HZ.out];exact ⟨gC.out,HL.out⟩));go_wp2_with fail
           refine aF wm U' U' (aj _) ?_
           repeat ((first | refine aG J' ?_ | refine aH _ J' LO ?_);simp only [Act.put,pz])
           refine aN ?_;intro wn hn;replace hn:=hn.out;have bw:Below wo.heap.size wo wn:=ah bL hn;have RJ:=mG gO.out bw;obtain ⟨_,fa,apy,V4⟩:=IE RJ
           have et:=I (show ∀q u,(ds.take (jj * 3))[q]? = some u->wn.cell? ((⟨g,0,none⟩:Addr).add q) = some u from λq u hu=>by
            rw [Addr.add_lit,Nat.zero_add];rw [List.getElem?_take] at hu;split at hu
            ·exact V4 q u hu
            ·cases hu)
           have tu:=I (show ∀q u,(ds.drop (jj * 3))[q]? = some u->wn.cell? ⟨g,jj * 3+q,none⟩ = some u from λq u hu=>by
            rw [List.getElem?_drop] at hu
            exact V4 _ u hu)
           have pk:jj<=cap:=J;have T':¬cap = jj:=J;have yk:=i7.out.ext bw;have n0:wn.cell? ⟨nb,0,none⟩ = some (.string y.key):=yk.cell (i:=0) (u:=.string y.key) rfl;have n1:wn.cell? ⟨nb,1,none⟩ = some (.int .i64 y.op):=yk.cell (i:=1) (u:=.int .i64 y.op) rfl;have n2:wn.cell? ⟨nb,2,none⟩ = some (.slice Ay y.values.length cy):=yk.cell (i:=2) (u:=.slice Ay y.values.length cy) rfl;have pm:nb < wn.heap.size:=(by have:=hn.size;omega);have j':=I (show Below w.heap.size w wn from e9.out.trans (bw.mono e9.out.size));have CI:=I (mm.out.ext bw);have CK:=I (IM.out.ext bw);clear RJ V4 yk k0 k1 k2 z0 z1 z2 bL hn bw;go_wp2_with fail
           refine zU wn 9 U' U' (aj _) ?_;refine YU (λa0 a' w'=>∃(g9 p9:Nat) (cV cW cX cY cZ da db:Value),a' = (Act.put (Act.put (Act.put (Act.put (Act.put (Act.put (Act.put (Act.put (Act.put a0 (some 68) (cV)) (some 69) (cW)) (some 70) (cX)) (some 71) (cY)) (some 72) (cZ)) (some 73) (da)) (some 74) (db)) (some 75) (.slice (some ⟨g9,0,none⟩) (jj+1) p9)) (some 8) (.slice (some ⟨g9,0,none⟩) (jj+1) p9))/\Below wn.heap.size wn w'/\World.ownsRow w' wn.heap.size 89 3 (.slice (some ⟨g9,0,none⟩) (jj+1) p9) (jj+1) ((ds.take (jj * 3))++[.string y.key,.int .i64 y.op,.slice Ay y.values.length cy])) ?_ ?_;rotate_left
           ·exact Kg
           intro a' w7 ff;obtain ⟨g9,p9,cV,cW,cX,cY,cZ,da,db,rfl,bx,nK⟩:=ff;try simp only [Act.put,pz]
           have o0:=bx.size;have BI:N - jj = N - jj:=rfl
           go_wp2_with (
            at_builtin
            go_must (refine xW vR J' _ _ J' w7 wn.heap.size _ _ _ nK J' ⟨g,jj * 3,none⟩ (N - jj) (cap - jj) (ds.drop (jj * 3)) J' (by rw [List.length_drop,Ty.out];omega) (λq u hu=>by rw [Addr.add_lit];exact (bx.cell (p:=⟨g,jj * 3+q,none⟩) fa).trans (tu.out q u hu)) (λu hu=>jk.out u (List.mem_of_mem_drop hu)) J J lI ?_)
            intro v8 w8 Le cQ li;rw [show jj+1+(N - jj) = N+1 by omega,List.append_assoc] at Le;obtain ⟨g8,p8,hv8,aJs,aJt,aJu⟩:=wW Le J
            subst hv8)
           exact Lj
      ·have hje:jj = N:=J;have Ui:¬jj < SS.length:=(by rw [cP.out];omega);have qk:N<=jj:=J;have qm:decide ((jj:Int) < (N:Int)) = false:=(by simp;omega);have qn:decide (jj < N) = false:=(by simp;omega);have HI:=I (show eM nD y SS = fL jj y SS from aD0 HN.out (by rw [cP.out];omega) (λh9=>absurd h9 Ui));clear hje fe;go_wp2_with fail
       refine aF wr U' U' (aj _) ?_
       repeat ((first | refine aG J' ?_ | refine aH _ J' du ?_);simp only [Act.put,pz])
       refine aN ?_;intro wm hn;replace hn:=hn.out;have ij:Below wo.heap.size wo wm:=ah bL hn;have ik:g < wm.heap.size:=(by have:=hn.size;omega);have il:nb < wm.heap.size:=(by have:=hn.size;omega);replace k0:=r' hn k0 er;replace k1:=r' hn k1 er;replace k2:=r' hn k2 er;clear bL hn re;obtain ⟨bL,om,mR⟩:Below wo.heap.size wo wm/\nb < wm.heap.size/\g < wm.heap.size:=⟨ij,il,ik⟩;clear ij il ik;go_wp2_with fail
       refine aF wm U' U' (aj _) ?_
       repeat ((first | refine aG J' ?_ | refine aH _ J' du ?_);simp only [Act.put,pz])
       refine aN ?_;intro wn hn;replace hn:=hn.out;have bw:Below wo.heap.size wo wn:=ah bL hn;have RJ:=mG gO.out bw;obtain ⟨_,fa,apy,V4⟩:=IE RJ
       have et:=I (show ∀q u,(ds.take (jj * 3))[q]? = some u->wn.cell? ((⟨g,0,none⟩:Addr).add q) = some u from λq u hu=>by
        rw [Addr.add_lit,Nat.zero_add];rw [List.getElem?_take] at hu;split at hu
        ·exact V4 q u hu
        ·cases hu)
       have tu:=I (show ∀q u,(ds.drop (jj * 3))[q]? = some u->wn.cell? ⟨g,jj * 3+q,none⟩ = some u from λq u hu=>by
        rw [List.getElem?_drop] at hu
        exact V4 _ u hu)
       have pk:jj<=cap:=J;have yk:=i7.out.ext bw;have n0:wn.cell? ⟨nb,0,none⟩ = some (.string y.key):=yk.cell (i:=0) (u:=.string y.key) rfl;have n1:wn.cell? ⟨nb,1,none⟩ = some (.int .i64 y.op):=yk.cell (i:=1) (u:=.int .i64 y.op) rfl;have n2:wn.cell? ⟨nb,2,none⟩ = some (.slice Ay y.values.length cy):=yk.cell (i:=2) (u:=.slice Ay y.values.length cy) rfl;have pm:nb < wn.heap.size:=(by have:=hn.size;omega);have j':=I (show Below w.heap.size w wn from e9.out.trans (bw.mono e9.out.size));have CI:=I (mm.out.ext bw);have CK:=I (IM.out.ext bw);clear RJ V4 yk k0 k1 k2 bL hn bw;go_wp2_with fail
       refine zU wn 9 U' U' (aj _) ?_;refine YU (λa0 a' w'=>∃(g9 p9:Nat) (cV cW cX cY cZ da db:Value),a' = (Act.put (Act.put (Act.put (Act.put (Act.put (Act.put (Act.put (Act.put (Act.put a0 (some 68) (cV)) (some 69) (cW)) (some 70) (cX)) (some 71) (cY)) (some 72) (cZ)) (some 73) (da)) (some 74) (db)) (some 75) (.slice (some ⟨g9,0,none⟩) (jj+1) p9)) (some 8) (.slice (some ⟨g9,0,none⟩) (jj+1) p9))/\Below wn.heap.size wn w'/\World.ownsRow w' wn.heap.size 89 3 (.slice (some ⟨g9,0,none⟩) (jj+1) p9) (jj+1) ((ds.take (jj * 3))++[.string y.key,.int .i64 y.op,.slice Ay y.values.length cy])) ?_ ?_;rotate_left
       ·exact Kg
       intro a' w7 ff;obtain ⟨g9,p9,cV,cW,cX,cY,cZ,da,db,rfl,bx,nK⟩:=ff;try simp only [Act.put,pz]
       have o0:=bx.size;obtain ⟨A0,hA0,cL⟩:∃A0:Addr,(if cap = jj then some (⟨g,0,none⟩:Addr) else some ⟨g,jj * 3,none⟩) = some A0/\Hid (∀q u,(ds.drop (jj * 3))[q]? = some u->w7.cell? (A0.add q) = some u):=by
        by_cases hc:cap = jj
        ·refine ⟨⟨g,0,none⟩,by simp [hc],λq u hu=>?_⟩;have h0:(ds.drop (jj * 3)).length = 0:=(by rw [List.length_drop,Ty.out];omega);exact pQ
        ·refine ⟨⟨g,jj * 3,none⟩,by simp [hc],λq u hu=>?_⟩;rw [Addr.add_lit];exact (bx.cell (p:=⟨g,jj * 3+q,none⟩) fa).trans (tu.out q u hu)
       have BI:N - jj = N - jj:=rfl
       go_wp2_with (
        at_builtin
        go_must (refine xW vR J' _ _ J' w7 wn.heap.size _ _ _ nK J' A0 0 (cap - jj) (ds.drop (jj * 3)) J' (by rw [List.length_drop,Ty.out];omega) cL.out (λu hu=>jk.out u (List.mem_of_mem_drop hu)) J J lI ?_)
        intro v8 w8 Le cQ li;rw [show jj+1+0 = N+1 by omega,List.append_assoc] at Le;obtain ⟨g8,p8,hv8,aJs,aJt,aJu⟩:=wW Le J
        subst hv8)
       exact Lj
    ·have HR:=I (ayS (aDv (List.getElem_mem am) hv40));go_wp2_with fail
     refine (T7 xs _ c F _ (h.ext ax) hl HV.out).mono ?_;rintro e w5 ⟨A5,c5,F5,rfl,fH,bj⟩;go_wp2;go_ret2
     exact ⟨A5,c5,F5,by rw [HR.out];try rfl,by rw [HR.out];exact fH.mono ax.size,ah ax bj,λhh=>absurd hh Lx⟩
   ·have bs:k = xs.length:=J;subst bs;rw [List.take_length] at HOC0 cP;have HSV:=I (aDw λj hj=>HW40.out j hj hj);have bz:=aCK.out;rw [<- cP.out] at bz;obtain ⟨A4,c4,G4,hv4,i6⟩:=ai.oJ bz HOC0.out (λq hq=>by simp only [Value.ownBlock,Option.some.injEq] at hq;subst hq;exact HGG.out);rw [cP.out] at hv4;simp only [Value.slice.injEq,true_and] at hv4;obtain ⟨yb,ej⟩:=hv4;subst yb ej;have lB:=I i6;have rh:=I ax;have mr:=I (eK.oJ bz (Nat.le_refl _));have hlu:((kA xs).length:Int)<=1048576:=(by have:=aDu xs;omega);have HK:=I (WJ (kA xs) _ N cap G4 wr i6.rd cP.out.symm hlu (λl hl=>by obtain ⟨x,hx,rfl⟩:=az4 hl;exact Yr (by have:=Eo.out x hx;omega)));clear ax bz i6 hlu aCK HOC0;cases hr:kw (kA xs) with
    | true =>
      have HR:=I (az3 rI HSV.out hr);have nz:=I hr;clear hr;go_wp2_with fail
      refine HK.out.mono ?_;exact Ly
    | false =>
      have HR:=I (aAv hr);have nz:=I hr;clear hr;go_wp2_with fail
      refine HK.out.mono ?_;rw [nz.out];rintro e w4 ⟨rfl,bC⟩;have ka:=I (show Below w.heap.size w w4 from rh.out.trans (bC.mono rh.out.size));clear bC;go_wp2_with fail
      refine (T7 xs A c F w4 (h.ext ka.out) hl HV.out).mono ?_;rintro e w5 ⟨A5,c5,F5,rfl,fH,bj⟩;go_wp2;go_ret2
      exact ⟨A5,c5,F5,by rw [HR.out];try rfl,by rw [HR.out];exact fH.mono ka.out.size,ah ka.out bj,λhh=>absurd hh Lx⟩
 ·have HR:=I (ayR rI);go_enter Tryz.func211,Tryz.ntmps211;go_wp2_with fail
  refine (T7 xs A c F w h hl HV.out).mono ?_;rintro e w1 ⟨A1,c1,F1,rfl,jX,bi⟩;go_wp2;go_ret2
  exact ⟨A1,c1,F1,by rw [HR.out];try rfl,by rw [HR.out];exact jX,bi,λhh=>absurd hh Lx⟩
theorem az1 (xs:List aE) (A:Option Addr) (c:Nat) (F:List Nat) (w:World) (h:Sl w xs A c F) (hl:(xs.length:Int)<=1048576) (cR:∀l∈xs,(l.wt:Int)<=1048576) :
 Calls Tryz.prog 211 #[.slice A xs.length c] w λe w'=>∃A' c' G,e = .returned (.tuple #[.slice A' (ke xs).1.length c',.bool (ke xs).2])/\ai w' w.heap.size (ke xs).1 [.slice A' (ke xs).1.length c'] G/\Below w.heap.size w w' :=
 (aJV xs A c F w h hl cR).mono λ_ _ ⟨A',c',G,a,b,d,_⟩=>⟨A',c',G,a,b,d⟩
theorem SI (x:nI) (cs:List Value) (F:List Nat) (w:World) (h:rd w x cs F) (hw:(x.wt:Int)<=1048576) :
 Calls Tryz.prog 187 #[.agg cs.toArray] w λe w'=>∃ds G,e = .returned (.tuple #[.agg ds.toArray,.bool (jf x).2])/\ai w' w.heap.size (jf x).1 ds G/\Below w.heap.size w w':=by
 have h0:=h;obtain ⟨gu,gy,jw,oh,nT,wG,fA,fB,jY,aq,qp,hname,dO,vg,b8,BJ,mX,eG⟩:=dL h;subst aq;clear qp h;have HX:=I h0;have Du:=I hw;clear h0;have fv:x.wt = x.name.size+kL ao.wt x.labels+kL aE.wt x.af+kL bH.wt x.ae:=rfl;have cU:(x.labels.length:Int)<=1048576:=by have:=gJ ao.wt x.labels;omega
 have dm:(x.af.length:Int)<=1048576:=by have:=gJ aE.wt x.af;omega
 have CC:(x.ae.length:Int)<=1048576:=by have:=gJ bH.wt x.ae;omega
 have oy:∀l∈x.labels,(l.key.size:Int)<=1048576/\(l.value.size:Int)<=1048576:=λl hl=>by have h9:=Bq (f:=ao.wt) hl;have h8:ao.wt l = l.key.size+l.value.size:=rfl;omega
 have pT:∀l∈x.af,(l.wt:Int)<=1048576:=λl hl=>by have:=Bq (f:=aE.wt) hl;omega
 have hm3:∀l∈x.ae,(l.key.size:Int)<=1048576/\(l.value.size:Int)<=1048576:=λl hl=>by have h9:=Bq (f:=bH.wt) hl;have h8:bH.wt l = l.key.size+l.value.size:=rfl;omega
 have hv:∀y∈x.af,(y.values.length:Int)<=1048576:=λl hl=>by have h9:=Bq (f:=aE.wt) hl;have:=gJ ByteArray.size l.values;have h8:aE.wt l = l.key.size+kL ByteArray.size l.values:=rfl;omega
 have S0:rB w (((w.alloc (.cells #[.string x.name,.slice gu x.labels.length gy,.int .i64 x.aw,.int .i64 x.mem,.int .i64 x.av,.slice oh x.af.length nT,.slice fA x.ae.length fB] 46)).alloc (.cells #[.string ⟨#[]⟩,.slice none 0 0,.int .i64 0,.int .i64 0,.int .i64 0,.slice none 0 0,.slice none 0 0] 46)).alloc (.cells #[.string x.name,.slice gu x.labels.length gy,.int .i64 x.aw,.int .i64 x.mem,.int .i64 x.av,.slice oh x.af.length nT,.slice fA x.ae.length fB] 46)) [.string x.name,.slice gu x.labels.length gy,.int .i64 x.aw,.int .i64 x.mem,.int .i64 x.av,.slice oh x.af.length nT,.slice fA x.ae.length fB] [.string ⟨#[]⟩,.slice none 0 0,.int .i64 0,.int .i64 0,.int .i64 0,.slice none 0 0,.slice none 0 0] [.string x.name,.slice gu x.labels.length gy,.int .i64 x.aw,.int .i64 x.mem,.int .i64 x.av,.slice oh x.af.length nT,.slice fA x.ae.length fB]:=rB.new w _ _ _ 46 46 46;obtain ⟨v0,sL⟩:∃v0,(((w.alloc (.cells #[.string x.name,.slice gu x.labels.length gy,.int .i64 x.aw,.int .i64 x.mem,.int .i64 x.av,.slice oh x.af.length nT,.slice fA x.ae.length fB] 46)).alloc (.cells #[.string ⟨#[]⟩,.slice none 0 0,.int .i64 0,.int .i64 0,.int .i64 0,.slice none 0 0,.slice none 0 0] 46)).alloc (.cells #[.string x.name,.slice gu x.labels.length gy,.int .i64 x.aw,.int .i64 x.mem,.int .i64 x.av,.slice oh x.af.length nT,.slice fA x.ae.length fB] 46)) = v0:=⟨_,rfl⟩;rw [sL] at S0;have sn:=I sL;have i1:=S0.box.cell (i:=1) (u:=.slice gu x.labels.length gy) rfl;have j1:=S0.ob.lt;clear sL hw fv;go_enter Tryz.func187,Tryz.ntmps187;go_wp2_with fail
 rw [sn.out];clear sn;refine (aJR x.labels _ _ _ v0 (dO.ext S0.below) cU oy).mono ?_;obtain ⟨L1,b1,e1⟩:∃L b,BG x.labels = (L,b):=⟨_,_,rfl⟩;rw [e1];have E1:=I e1;clear e1 i1;rintro e w1 ⟨A1,c1,G1,rfl,jX,bi⟩;have T1:=S0.ext bi;replace jX:=jX.mono (B':=w.heap.size+1+1+1) J;obtain ⟨z1,cG⟩:∃z,z = w1.heap.size:=⟨_,rfl⟩;have Ep:=I (show ∀b∈G1,b < z1 from λb hb=>by rw [cG];exact jX.lt b hb);have XR:w.heap.size+1+1+1<=z1:=by have:=bi.size;omega
 clear bi;have i2:=T1.box.cell (i:=5) (u:=.slice oh x.af.length nT) rfl;have j2:=T1.ob.lt;go_wp2_with fail
 clear S0;refine (az1 x.af _ _ _ w1 (mX.ext T1.below) dm pT).mono ?_;obtain ⟨L2,b2,e2⟩:∃L b,ke x.af = (L,b):=⟨_,_,rfl⟩;rw [e2];have E2:=I e2;clear e2 i2;rintro e w2 ⟨A2,c2,G2,rfl,bA,ap⟩;have T2:=T1.ext ap;replace bA:=bA.mono (B':=z1) (by have:=cG;omega);replace jX:=jX.ext ap;obtain ⟨z2,cr⟩:∃z,z = w2.heap.size:=⟨_,rfl⟩;have ya:=I (show ∀b∈G2,b < z2 from λb hb=>by rw [cr];exact bA.lt b hb);have XS:z1<=z2:=by have:=ap.size;omega
 clear ap;have i3:=T2.box.cell (i:=6) (u:=.slice fA x.ae.length fB) rfl;have j3:=T2.ob.lt;go_wp2_with fail
 clear T1;refine (axf x.ae _ _ _ w2 (eG.ext T2.below) CC hm3).mono ?_;obtain ⟨L3,b3,e3⟩:∃L b,kz x.ae = (L,b):=⟨_,_,rfl⟩;rw [e3];have E3:=I e3;clear e3 i3;rintro e w3 ⟨A3,c3,G3,rfl,hO3,ba⟩;have T3:=T2.ext ba;replace hO3:=hO3.mono (B':=z2) (by have:=cr;omega);replace jX:=jX.ext ba;replace bA:=bA.ext ba;obtain ⟨z3,eN⟩:∃z,z = w3.heap.size:=⟨_,rfl⟩;have aa4:=I (show ∀b∈G3,b < z3 from λb hb=>by rw [eN];exact hO3.lt b hb);have aa5:z2<=z3:=by have:=ba.size;omega
 clear ba;have k1:=T3.ob.cell (i:=1) (u:=.slice gu x.labels.length gy) rfl;have f1:=T3.ob.fz 1;have S1:=T3.put 1 (.slice A1 L1.length c1);replace jX:=jX.setCell (p:=⟨w.heap.size+1+1,1,none⟩) bv (.slice A1 L1.length c1);replace bA:=bA.setCell (p:=⟨w.heap.size+1+1,1,none⟩) bv (.slice A1 L1.length c1);replace hO3:=hO3.setCell (p:=⟨w.heap.size+1+1,1,none⟩) bv (.slice A1 L1.length c1);have k2:=T3.ob.cell (i:=5) (u:=.slice oh x.af.length nT) rfl;have f2:=T3.ob.fz 5;have S2:=S1.put 5 (.slice A2 L2.length c2);replace jX:=jX.setCell (p:=⟨w.heap.size+1+1,5,none⟩) bv (.slice A2 L2.length c2);replace bA:=bA.setCell (p:=⟨w.heap.size+1+1,5,none⟩) bv (.slice A2 L2.length c2);replace hO3:=hO3.setCell (p:=⟨w.heap.size+1+1,5,none⟩) bv (.slice A2 L2.length c2);have k3:=T3.ob.cell (i:=6) (u:=.slice fA x.ae.length fB) rfl;have f3:=T3.ob.fz 6;have S3:=S2.put 6 (.slice A3 L3.length c3);replace jX:=jX.setCell (p:=⟨w.heap.size+1+1,6,none⟩) bv (.slice A3 L3.length c3);replace bA:=bA.setCell (p:=⟨w.heap.size+1+1,6,none⟩) bv (.slice A3 L3.length c3);replace hO3:=hO3.setCell (p:=⟨w.heap.size+1+1,6,none⟩) bv (.slice A3 L3.length c3);have l9:=T3.ob.lt;go_upto_region 8 with fail
 obtain ⟨v3,hv⟩:∃v,(((w3.setCell ⟨w.heap.size+1+1,1,none⟩ (.slice A1 L1.length c1)).setCell ⟨w.heap.size+1+1,5,none⟩ (.slice A2 L2.length c2)).setCell ⟨w.heap.size+1+1,6,none⟩ (.slice A3 L3.length c3)) = v:=⟨_,rfl⟩;have hs:v3.heap.size = z3:=by rw [<- hv,eN];simp [World.setCell]
 rw [hv] at S3 jX bA hO3;try rw [hv]
 clear hv T3 k1 f1 k2 f2 k3 f3 l9 eN;have eN:=hs;clear hs
 have gb:=I (show ai v3 (w.heap.size+1+1+1) (⟨x.name,L1,x.aw,x.mem,x.av,L2,L3⟩:nI) [.string x.name,.slice A1 L1.length c1,.int .i64 x.aw,.int .i64 x.mem,.int .i64 x.av,.slice A2 L2.length c2,.slice A3 L3.length c3] (G1++(G2++G3)) from by
  refine ai.up (B':=w.heap.size+1+1+1) (λx:nI=>(x.name,x.labels,x.aw,x.mem,x.av,x.af,x.ae)) ?_ (Nat.le_refl _);refine ai.cons (c1:=[.string x.name]) (rdStr _ x.name (rV hname)) ?_;refine ai.pair (B2:=z1) (c1:=[.slice A1 L1.length c1]) (F1:=G1) jX ?_ J Ep.out;refine ai.cons (c1:=[.int .i64 x.aw]) (jL _ x.aw vg) ?_;refine ai.cons (c1:=[.int .i64 x.mem]) (jL _ x.mem b8) ?_;refine ai.cons (c1:=[.int .i64 x.av]) (jL _ x.av BJ) ?_;refine ai.pair (B2:=z2) (c1:=[.slice A2 L2.length c2]) (F1:=G2) bA ?_ J ya.out
  exact hO3)
 have HN:=I (show tv x = ⟨x.name,L1,x.aw,x.mem,x.av,L2,L3⟩ by unfold tv;rw [E1.out,E2.out,E3.out]);have HR:=I (show jf x = if b1 = true/\b2 = true/\b3 = true/\GU (tv x) = true then (tv x,true) else (x,false) by unfold jf;rw [E1.out,E2.out,E3.out]);have HS:=I S3;have HYW:=I (show ((tv x).wt:Int)<=1048576 by have:=aDX x;have:=Du.out;omega);clear jX bA hO3 S3;have q_:=HS.out.ob.lt;obtain ⟨p0,p1,p2,p3,p4,p5,p6⟩:=nv HS.out.box;cases b1 with
 | false =>have o3:=I (show jf x = (x,false) by rw [HR.out];exact if_neg (by rintro ⟨hh,_⟩;cases hh));exact CA
 | true =>
   cases b2 with
   | false =>have o3:=I (show jf x = (x,false) by rw [HR.out];exact if_neg (by rintro ⟨_,hh,_⟩;cases hh));exact CA
   | true =>
     cases b3 with
     | false =>have o3:=I (show jf x = (x,false) by rw [HR.out];exact if_neg (by rintro ⟨_,_,hh,_⟩;cases hh));exact CA
     | true =>
       have HYN:=HN;cases hr:GU (tv x) with
       | false =>
         have ia:=I hr;obtain ⟨q0,q1,q2,q3,q4,q5,q6⟩:=nv HS.out.ob;go_wp2_with fail
         refine (yT (⟨x.name,L1,x.aw,x.mem,x.av,L2,L3⟩:nI) _ _ v3 gb.out.rd TB).mono ?_;rw [<- HN.out,ia.out];rintro e w7 ⟨rfl,bx⟩;have im:=I (HS.out.ext bx);have Tg:=I (gb.out.ext bx);clear p0 p1 p2 p3 p4 p5 p6 q0 q1 q2 q3 q4 q5 q6 q_ bx;have o3:=I (show jf x = (x,false) by rw [HR.out];exact if_neg (by rintro ⟨_,_,_,hh⟩;rw [ia.out] at hh;cases hh));have rr:=im.out.box.lt;obtain ⟨p0,p1,p2,p3,p4,p5,p6⟩:=nv im.out.box;go_wp2_with fail
         refine (Vx x _ _ w7 (SJ HX.out im.out.below) cU dm CC hv).mono ?_;rintro e w8 ⟨Vy,G8,rfl,sV,lA⟩;have T8:=im.out.ext lA;have SY:=sV;obtain ⟨sj,aHA,aJp,aIC,aID,aBA,aHF,aHG,aJF,ayd,hF9,aye,aJq,aAR,aAS,aDs,aBB,aJG⟩:=dL sV.rd;subst ayd;clear hF9 sV;obtain ⟨r0,r1,r2,r3,r4,r5,r6⟩:=nv T8.rb;have rf:=T8.rb.fz;have rl:=T8.rb.lt;have mj:=I SY;have H9:=I T8;have Vz:w.heap.size+1 < w7.heap.size:=im.out.rb.lt;clear SY T8 lA;go_wp2_with fail
         try dsimp only
         iterate 60 (first | go_step | skip)
         refine bodyPost_ret (v:=.tuple #[.agg #[.string x.name,.slice sj x.labels.length aHA,.int .i64 x.aw,.int .i64 x.mem,.int .i64 x.av,.slice aIC x.af.length aID,.slice aHF x.ae.length aHG],.bool false]) (by simp [results,Tryz.results187,go_sem, *]) rfl ⟨[.string x.name,.slice sj x.labels.length aHA,.int .i64 x.aw,.int .i64 x.mem,.int .i64 x.av,.slice aIC x.af.length aID,.slice aHF x.ae.length aHG],G8,by rw [o3.out];try rfl,?_,?_⟩
         ·rw [o3.out];refine ai.mono (B:=w7.heap.size) ?_ J;exact Ia
         ·exact SK
       | true =>
         have ia:=I hr;obtain ⟨q0,q1,q2,q3,q4,q5,q6⟩:=nv HS.out.ob;go_wp2_with fail
         refine (yT (⟨x.name,L1,x.aw,x.mem,x.av,L2,L3⟩:nI) _ _ v3 gb.out.rd TB).mono ?_;rw [<- HN.out,ia.out];rintro e w7 ⟨rfl,bx⟩;have im:=I (HS.out.ext bx);have Tg:=I (gb.out.ext bx);clear p0 p1 p2 p3 p4 p5 p6 q0 q1 q2 q3 q4 q5 q6 q_ bx;have C3:=I (show jf x = (tv x,true) by rw [HR.out];exact if_pos (by simp [ia.out]));obtain ⟨q0,q1,q2,q3,q4,q5,q6⟩:=nv im.out.ob;obtain ⟨r0,r1,r2,r3,r4,r5,r6⟩:=nv im.out.rb;have rf:=im.out.rb.fz;have rl:=im.out.rb.lt;have ql:=im.out.ob.lt;go_wp2_with fail
         try dsimp only
         iterate 60 (first | go_step | skip)
         refine bodyPost_ret (v:=.tuple #[.agg #[.string x.name,.slice A1 L1.length c1,.int .i64 x.aw,.int .i64 x.mem,.int .i64 x.av,.slice A2 L2.length c2,.slice A3 L3.length c3],.bool true]) (by simp [results,Tryz.results187,go_sem, *]) rfl ⟨[.string x.name,.slice A1 L1.length c1,.int .i64 x.aw,.int .i64 x.mem,.int .i64 x.av,.slice A2 L2.length c2,.slice A3 L3.length c3],G1++(G2++G3),by rw [C3.out];try rfl,?_,?_⟩
         ·exact ME
         ·exact (by repeat (first | with_reducible exact im.out.below | with_reducible refine aC ?_ bv _))
theorem len8 {s:ByteArray} (h:s.size<=8):s.size<=maxLen:=by unfold maxLen;omega
theorem cj.below {w w':World} {c n cap B:Nat} {A:Option Addr} (h:cj w c A n cap) (hb:Below B w w') (hc:c < B):cj w' c A n cap:=by
 obtain ⟨⟨i,x,t,h1,h2⟩,h3,h4⟩:=h;refine ⟨⟨i,x,t,(hb.block c hc).trans h1,h2⟩,λk hk=>?_,h4⟩;obtain ⟨g,o,v,e,hg,hv,hJ⟩:=h3 k hk;exact ⟨g,o,v,e,hg,(World.cell?_of_block (hb.block g J)).trans hv,hJ⟩
theorem nN.pH {F:List Nat} {w w1 w2:World} {B:Nat} (h:nN F w w1) (hb:Below B w1 w2) (hB:w.heap.size<=B):nN F w w2 :=
 ⟨hb.os.trans h.os,hb.tape.trans h.tape,hb.output.trans h.output,Nat.le_trans h.size hb.size,λi hi hn=>(hb.block i J).trans (h.block i hi hn)⟩
theorem ai.US {α:Type} [bd α] {w w':World} {B B2:Nat} {x:α} {cs:List Value} {F:List Nat} (h:ai w B x cs F) (hb:Below B2 w w') (hF:∀b∈F,b < B2):ai w' B x cs F :=
 h.keep (λb hm=>hb.block b (hF b hm)) hb.size
theorem azD {xs:List iU} (h:(Fq xs).2 = true):La (Fq xs).1 = true:=by
 unfold Fq at h |-;exact Dr
theorem qC (w:World) (c:Nat) (A:Option Addr) (n cap:Nat) (h:cj w c A n cap) :
 Calls Tryz.prog 194 #[.pointer (some ⟨c,0,none⟩)] w λe w'=>∃(xs:List iU) (A':Option Addr) (c':Nat) (G:List Nat),e = .returned (.slice A' xs.length c')/\ai w' w.heap.size xs [.slice A' xs.length c'] G/\La xs = true/\cj w' c A n cap/\nN [c] w w'/\eK w' w.heap.size 84 3 A' c':=by
 have am:=h.lt;have HC:=I h;clear h;go_enter Tryz.func194,Tryz.ntmps194;go_wp2_with fail
 go_loopw [3,4] (λv i wr=>∃(xs:List iU) (A':Option Addr) (c':Nat) (G:List Nat) (k:Nat),v = .slice A' xs.length c'/\i = .int .i64 k/\(k:Int)<=2/\ai wr w.heap.size xs [.slice A' xs.length c'] G/\Hid (La xs = true)/\cj wr c A n cap/\nN [c] w wr/\Hid (eK wr w.heap.size 84 3 A' c')) (λ_ i _=>2 - (intOf i).toNat)
 case atStart =>obtain ⟨A',c',G,hv,hO⟩:=ai.oJ (α:=iU) (D9 w 84 3 w.heap.size rfl) (aY.nil _ _) (λg _ hm=>by cases hm);simp only [Value.slice.injEq,List.length_nil] at hv;obtain ⟨rfl,_,rfl⟩:=hv;exact ⟨[],_,_,G,0,rfl,rfl,J,hO,I rfl,HC.out.ext (ak (aj _) _),nN.lq _ (ak (aj _) _),I (eK.oJ (D9 w 84 3 w.heap.size rfl) (Nat.le_refl _))⟩
 case round =>
  obtain ⟨xs,A',c',G,k,rfl,rfl,hk,hO,Du,hcur,hur,mr⟩:=hrel;have HO:=I hO;have tG:=I hcur;have tI:=I hur;have pj:=hur.size;have UT:(xs.length:Int)<=204:=by have h1:=gJ iU.wt xs;have:=Uq Du.out;omega
  clear hO hcur hur;go_wp2_with fail
  refine (lk 3 J _ c A n cap tG.out).mono ?_;rintro e w1 ⟨r,rfl,hr,H1,hu1⟩;have gM:=I (HO.out.drawn hu1 am);have oa:=I (tI.out.trans hu1);have rm:=I (mr.out.drawn hu1 am);have cG:=hu1.size;have fo:=I H1;clear H1 hu1 HO tG tI mr;by_cases hkr:(k:Int) < r
  ·have tL:=I gM.out.lt;have yp:=I rm.out.lt;have cO:=fo.out.lt
   go_wp2_with (
    at_builtin
    go_must (refine rW sH J' J' _ _ J' (w1.alloc (.cells #[] 84)) w1.heap.size _ 0 [] (D9 w1 84 3 w1.heap.size rfl) J' xs A' c' G ((show Sl w1 xs A' c' G from gM.out.rd).ext (ak (aj _) _)) J' J J S' ?_)
    intro v2 w2 ds G2 de bm ar hg cD;go_must (obtain ⟨A2,c2,dt⟩:=mY ar)
    go_must (subst dt)
    go_must (have ap:Below w1.heap.size w1 w2:=lS (World.ownsRow_made (e:=84) (size:=3) w1 #[] 0 (Nat.le_refl _) (Nat.zero_le _) S') hg (ak (aj _) _) S'))
   simp only [Nat.zero_add,List.nil_append] at ar;try simp only [Nat.zero_add]
   obtain rfl:=O0 (λhh=>(oK hh).2.1) de;have nd:=I de;have pq:=I (fo.out.ext ap);have RZ:=I (gM.out.ext ap);have Fs:=I (rm.out.ext ap);have lV:=I (oa.out.pH ap J);have cr:=ap.size;have tM:=I ar;clear de bm ar hg cD ap;refine (aC9 _ c A n cap pq.out).mono ?_;rintro e w3 ⟨y,rfl,hy,H3,bJ⟩;have e':=I H3;clear H3;have gY:=I (RZ.out.drawn bJ am);have Fw:=I (Fs.out.drawn bJ am);have kB:=I (lV.out.trans bJ);have eg:=rQ tM.out bJ (show c < w1.heap.size by omega);have eN:=bJ.size;have oE:w1.heap.size<=w3.heap.size:=J
   go_wp2_with (
    at_builtin
    go_must (refine lC sH J' _ _ J' _ _ _ _ _ eg J' [.string y.key,.string y.value,.int .i64 y.effect] gn J' dv J J oE ?_)
    intro v4 w4 ew j8 Wy;go_must (obtain ⟨A4,c4,hv4⟩:=mY ew)
    go_must (subst hv4)
    go_must (have bC:Below w1.heap.size w3 w4:=lS eg j8 (Below.refl _ _) oE))
   have di:(xs++[y]).length = xs.length+1:=S';have AS:aY w4 w1.heap.size (xs++[y]) (ds++[.string y.key,.string y.value,.int .i64 y.effect]) []:=aY.push (B':=w1.heap.size) ⟨nd.out.frame (λb hb=>by cases hb) (by simp;omega),List.nodup_nil,(λb hb=>by cases hb),(λb hb=>by cases hb)⟩ (ai.flat (Q8 w4 y (len8 hy.1) (len8 hy.2.1) p')) (Nat.le_refl _) (λb hb=>by cases hb);obtain ⟨A5,c5,G5,fW,fH⟩:=ai.oJ (α:=iU) (xs:=xs++[y]) TA AS (λg _ hm=>by cases hm);rw [di] at fW;simp only [Value.slice.injEq,true_and] at fW;obtain ⟨rfl,rfl⟩:=fW
   have HS:=aJN (xs++[y]) A4 c4 G5 w4 fH.rd J (λl hl=>by
    rcases List.mem_append.1 hl with hl | hl
    ·have h1:=Bq (f:=iU.wt) hl;have h2:iU.wt l = l.key.size+l.value.size:=rfl;have:=Uq Du.out;omega
    ·rw [List.mem_singleton] at hl;subst hl;omega)
   rw [di] at HS;have fT:=I (e'.out.below bC J);have lB:=I (gY.out.US bC tL.out);have Lg:=I (Fw.out.keep λg hg=>bC.block g (yp.out g hg));have mo:=I (kB.out.pH bC J);have ia:=I (λh=>azD (xs:=xs++[y]) h);have T6:=bC.size;clear fH AS ew j8 bC eg bJ tM nd gM oa fo RZ lV pq e' gY kB tL;refine HS.mono ?_;clear HS;generalize Fq (xs++[y]) = R at *;exact CF
  ·exact xu
theorem aBo {xs:List bH} (h:(kz xs).2 = true):Ya (kz xs).1 = true:=by
 unfold kz at h |-;exact Dr
theorem fX (w:World) (c:Nat) (A:Option Addr) (n cap:Nat) (h:cj w c A n cap) :
 Calls Tryz.prog 193 #[.pointer (some ⟨c,0,none⟩)] w λe w'=>∃(xs:List bH) (A':Option Addr) (c':Nat) (G:List Nat),e = .returned (.slice A' xs.length c')/\ai w' w.heap.size xs [.slice A' xs.length c'] G/\Ya xs = true/\cj w' c A n cap/\nN [c] w w'/\eK w' w.heap.size 91 4 A' c':=by
 have am:=h.lt;have HC:=I h;clear h;go_enter Tryz.func193,Tryz.ntmps193;go_wp2_with fail
 go_loopw [3,4] (λv i wr=>∃(xs:List bH) (A':Option Addr) (c':Nat) (G:List Nat) (k:Nat),v = .slice A' xs.length c'/\i = .int .i64 k/\(k:Int)<=2/\ai wr w.heap.size xs [.slice A' xs.length c'] G/\Hid (Ya xs = true)/\cj wr c A n cap/\nN [c] w wr/\Hid (eK wr w.heap.size 91 4 A' c')) (λ_ i _=>2 - (intOf i).toNat)
 case atStart =>obtain ⟨A',c',G,hv,hO⟩:=ai.oJ (α:=bH) (D9 w 91 4 w.heap.size rfl) (aY.nil _ _) (λg _ hm=>by cases hm);simp only [Value.slice.injEq,List.length_nil] at hv;obtain ⟨rfl,_,rfl⟩:=hv;exact ⟨[],_,_,G,0,rfl,rfl,J,hO,I rfl,HC.out.ext (ak (aj _) _),nN.lq _ (ak (aj _) _),I (eK.oJ (D9 w 91 4 w.heap.size rfl) (Nat.le_refl _))⟩
 case round =>
  obtain ⟨xs,A',c',G,k,rfl,rfl,hk,hO,Du,hcur,hur,mr⟩:=hrel;have HO:=I hO;have tG:=I hcur;have tI:=I hur;have pj:=hur.size;have UT:(xs.length:Int)<=204:=by have h1:=gJ bH.wt xs;have:=PU Du.out;omega
  clear hO hcur hur;go_wp2_with fail
  refine (lk 3 J _ c A n cap tG.out).mono ?_;rintro e w1 ⟨r,rfl,hr,H1,hu1⟩;have gM:=I (HO.out.drawn hu1 am);have oa:=I (tI.out.trans hu1);have rm:=I (mr.out.drawn hu1 am);have cG:=hu1.size;have fo:=I H1;clear H1 hu1 HO tG tI mr;by_cases hkr:(k:Int) < r
  ·have tL:=I gM.out.lt;have yp:=I rm.out.lt;have cO:=fo.out.lt
   go_wp2_with (
    at_builtin
    go_must (refine rW sF J' J' _ _ J' (w1.alloc (.cells #[] 91)) w1.heap.size _ 0 [] (D9 w1 91 4 w1.heap.size rfl) J' xs A' c' G ((show Sl w1 xs A' c' G from gM.out.rd).ext (ak (aj _) _)) J' J J S' ?_)
    intro v2 w2 ds G2 de bm ar hg cD;go_must (obtain ⟨A2,c2,dt⟩:=mY ar)
    go_must (subst dt)
    go_must (have ap:Below w1.heap.size w1 w2:=lS (World.ownsRow_made (e:=91) (size:=4) w1 #[] 0 (Nat.le_refl _) (Nat.zero_le _) S') hg (ak (aj _) _) S'))
   simp only [Nat.zero_add,List.nil_append] at ar;try simp only [Nat.zero_add]
   obtain rfl:=O0 (λhh=>(jv hh).2.1) de;have nd:=I de;have pq:=I (fo.out.ext ap);have RZ:=I (gM.out.ext ap);have Fs:=I (rm.out.ext ap);have lV:=I (oa.out.pH ap J);have cr:=ap.size;have tM:=I ar;clear de bm ar hg cD ap;refine (azF _ c A n cap pq.out).mono ?_;rintro e w3 ⟨y,rfl,hy,H3,bJ⟩;have e':=I H3;clear H3;have gY:=I (RZ.out.drawn bJ am);have Fw:=I (Fs.out.drawn bJ am);have kB:=I (lV.out.trans bJ);have eg:=rQ tM.out bJ (show c < w1.heap.size by omega);have eN:=bJ.size;have oE:w1.heap.size<=w3.heap.size:=J
   go_wp2_with (
    at_builtin
    go_must (refine lC sF J' _ _ J' _ _ _ _ _ eg J' [.string y.key,.bool y.equal,.string y.value,.int .i64 y.effect] gn J' dv J J oE ?_)
    intro v4 w4 ew j8 Wy;go_must (obtain ⟨A4,c4,hv4⟩:=mY ew)
    go_must (subst hv4)
    go_must (have bC:Below w1.heap.size w3 w4:=lS eg j8 (Below.refl _ _) oE))
   have di:(xs++[y]).length = xs.length+1:=S';have AS:aY w4 w1.heap.size (xs++[y]) (ds++[.string y.key,.bool y.equal,.string y.value,.int .i64 y.effect]) []:=aY.push (B':=w1.heap.size) ⟨nd.out.frame (λb hb=>by cases hb) (by simp;omega),List.nodup_nil,(λb hb=>by cases hb),(λb hb=>by cases hb)⟩ (ai.flat (Ov w4 y (len8 hy.1) (len8 hy.2.1) p')) (Nat.le_refl _) (λb hb=>by cases hb);obtain ⟨A5,c5,G5,fW,fH⟩:=ai.oJ (α:=bH) (xs:=xs++[y]) TA AS (λg _ hm=>by cases hm);rw [di] at fW;simp only [Value.slice.injEq,true_and] at fW;obtain ⟨rfl,rfl⟩:=fW
   have HS:=aIV (xs++[y]) A4 c4 G5 w4 fH.rd J (λl hl=>by
    rcases List.mem_append.1 hl with hl | hl
    ·have h1:=Bq (f:=bH.wt) hl;have h2:bH.wt l = l.key.size+l.value.size:=rfl;have:=PU Du.out;omega
    ·rw [List.mem_singleton] at hl;subst hl;omega)
   rw [di] at HS;have fT:=I (e'.out.below bC J);have lB:=I (gY.out.US bC tL.out);have Lg:=I (Fw.out.keep λg hg=>bC.block g (yp.out g hg));have mo:=I (kB.out.pH bC J);have ia:=I (λh=>aBo (xs:=xs++[y]) h);have T6:=bC.size;clear fH AS ew j8 bC eg bJ tM nd gM oa fo RZ lV pq e' gY kB tL;refine HS.mono ?_;clear HS;generalize kz (xs++[y]) = R at *;exact CF
  ·exact xu
theorem azG {xs:List ao} (h:(BG xs).2 = true):sD (BG xs).1 = true:=by
 unfold BG at h |-;exact Dr
theorem lm (w:World) (c:Nat) (A:Option Addr) (n cap:Nat) (h:cj w c A n cap) :
 Calls Tryz.prog 190 #[.pointer (some ⟨c,0,none⟩)] w λe w'=>∃(xs:List ao) (A':Option Addr) (c':Nat) (G:List Nat),e = .returned (.slice A' xs.length c')/\ai w' w.heap.size xs [.slice A' xs.length c'] G/\sD xs = true/\cj w' c A n cap/\nN [c] w w'/\eK w' w.heap.size 57 2 A' c':=by
 have am:=h.lt;have HC:=I h;clear h;go_enter Tryz.func190,Tryz.ntmps190;go_wp2_with fail
 go_loopw [3,4] (λv i wr=>∃(xs:List ao) (A':Option Addr) (c':Nat) (G:List Nat) (k:Nat),v = .slice A' xs.length c'/\i = .int .i64 k/\(k:Int)<=3/\ai wr w.heap.size xs [.slice A' xs.length c'] G/\Hid (sD xs = true)/\cj wr c A n cap/\nN [c] w wr/\Hid (eK wr w.heap.size 57 2 A' c')) (λ_ i _=>3 - (intOf i).toNat)
 case atStart =>obtain ⟨A',c',G,hv,hO⟩:=ai.oJ (α:=ao) (D9 w 57 2 w.heap.size rfl) (aY.nil _ _) (λg _ hm=>by cases hm);simp only [Value.slice.injEq,List.length_nil] at hv;obtain ⟨rfl,_,rfl⟩:=hv;exact ⟨[],_,_,G,0,rfl,rfl,J,hO,I rfl,HC.out.ext (ak (aj _) _),nN.lq _ (ak (aj _) _),I (eK.oJ (D9 w 57 2 w.heap.size rfl) (Nat.le_refl _))⟩
 case round =>
  obtain ⟨xs,A',c',G,k,rfl,rfl,hk,hO,Du,hcur,hur,mr⟩:=hrel;have HO:=I hO;have tG:=I hcur;have tI:=I hur;have pj:=hur.size;have UT:(xs.length:Int)<=306:=by have h1:=gJ ao.wt xs;have:=IR Du.out;omega
  clear hO hcur hur;go_wp2_with fail
  refine (lk 4 J _ c A n cap tG.out).mono ?_;rintro e w1 ⟨r,rfl,hr,H1,hu1⟩;have gM:=I (HO.out.drawn hu1 am);have oa:=I (tI.out.trans hu1);have rm:=I (mr.out.drawn hu1 am);have cG:=hu1.size;have fo:=I H1;clear H1 hu1 HO tG tI mr;by_cases hkr:(k:Int) < r
  ·have tL:=I gM.out.lt;have yp:=I rm.out.lt;have cO:=fo.out.lt
   go_wp2_with (
    at_builtin
    go_must (refine rW sI J' J' _ _ J' (w1.alloc (.cells #[] 57)) w1.heap.size _ 0 [] (D9 w1 57 2 w1.heap.size rfl) J' xs A' c' G ((show Sl w1 xs A' c' G from gM.out.rd).ext (ak (aj _) _)) J' J J S' ?_)
    intro v2 w2 ds G2 de bm ar hg cD;go_must (obtain ⟨A2,c2,dt⟩:=mY ar)
    go_must (subst dt)
    go_must (have ap:Below w1.heap.size w1 w2:=lS (World.ownsRow_made (e:=57) (size:=2) w1 #[] 0 (Nat.le_refl _) (Nat.zero_le _) S') hg (ak (aj _) _) S'))
   simp only [Nat.zero_add,List.nil_append] at ar;try simp only [Nat.zero_add]
   obtain rfl:=O0 (λhh=>(vO hh).2.1) de;have nd:=I de;have pq:=I (fo.out.ext ap);have RZ:=I (gM.out.ext ap);have Fs:=I (rm.out.ext ap);have lV:=I (oa.out.pH ap J);have cr:=ap.size;have tM:=I ar;clear de bm ar hg cD ap;refine (Uu _ c A n cap pq.out).mono ?_;rintro e wa ⟨s1,rfl,cF,Ha,hua⟩;have HCA:=I Ha;clear Ha;go_wp2_with fail
   refine (Uv _ c A n cap HCA.out).mono ?_;rintro e w3 ⟨s2,rfl,cC,H3,TE⟩;have bJ:nN [c] w2 w3:=hua.trans TE;have e':=I H3;clear H3 HCA hua TE;obtain ⟨y,rfl,rfl⟩:∃y:ao,s1 = y.key/\s2 = y.value:=⟨⟨s1,s2⟩,rfl,rfl⟩;have hy:=And.intro cF cC;have gY:=I (RZ.out.drawn bJ am);have Fw:=I (Fs.out.drawn bJ am);have kB:=I (lV.out.trans bJ);have eg:=rQ tM.out bJ (show c < w1.heap.size by omega);have eN:=bJ.size;have oE:w1.heap.size<=w3.heap.size:=J
   go_wp2_with (
    at_builtin
    go_must (refine lC sI J' _ _ J' _ _ _ _ _ eg J' [.string y.key,.string y.value] gn J' dv J J oE ?_)
    intro v4 w4 ew j8 Wy;go_must (obtain ⟨A4,c4,hv4⟩:=mY ew)
    go_must (subst hv4)
    go_must (have bC:Below w1.heap.size w3 w4:=lS eg j8 (Below.refl _ _) oE))
   have di:(xs++[y]).length = xs.length+1:=S';have AS:aY w4 w1.heap.size (xs++[y]) (ds++[.string y.key,.string y.value]) []:=aY.push (B':=w1.heap.size) ⟨nd.out.frame (λb hb=>by cases hb) (by simp;omega),List.nodup_nil,(λb hb=>by cases hb),(λb hb=>by cases hb)⟩ (ai.flat (WB w4 y (len8 hy.1) (len8 hy.2))) (Nat.le_refl _) (λb hb=>by cases hb);obtain ⟨A5,c5,G5,fW,fH⟩:=ai.oJ (α:=ao) (xs:=xs++[y]) TA AS (λg _ hm=>by cases hm);rw [di] at fW;simp only [Value.slice.injEq,true_and] at fW;obtain ⟨rfl,rfl⟩:=fW
   have HS:=aJP (xs++[y]) A4 c4 G5 w4 fH.rd J (λl hl=>by
    rcases List.mem_append.1 hl with hl | hl
    ·have h1:=Bq (f:=ao.wt) hl;have h2:ao.wt l = l.key.size+l.value.size:=rfl;have:=IR Du.out;omega
    ·rw [List.mem_singleton] at hl;subst hl;omega)
   rw [di] at HS;have fT:=I (e'.out.below bC J);have lB:=I (gY.out.US bC tL.out);have Lg:=I (Fw.out.keep λg hg=>bC.block g (yp.out g hg));have mo:=I (kB.out.pH bC J);have ia:=I (λh=>azG (xs:=xs++[y]) h);have T6:=bC.size;clear fH AS ew j8 bC eg bJ tM nd gM oa fo RZ lV pq e' gY kB tL;refine HS.mono ?_;clear HS;generalize BG (xs++[y]) = R at *;obtain ⟨u,b⟩:=R;rintro e w5 ⟨A6,c6,G6,rfl,iD,dx,Jg⟩;have j9:=I (fT.out.ext dx);have so:=I (lB.out.ext dx);have aDc:=I (Lg.out.ext dx);replace Jg:=I Jg;have uW:=I (mo.out.pH dx J);replace iD:=I (iD.mono (B':=w.heap.size) J);have VD:(k:Int)+1<=3:=J;exact Li
  ·exact xu
end Go.Proofs.YtjahcnjmjahbaaaGreat
