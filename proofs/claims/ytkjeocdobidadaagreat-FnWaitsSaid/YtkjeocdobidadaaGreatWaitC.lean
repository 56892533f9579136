/- Waiting of the program. No condition. -/
import Derived.Test.YtkjeocdobidadaaGreatStabM
import Derived.Test.YtkjeocdobidadaaGreatStabSP
import Derived.Test.YtkjeocdobidadaaGreatInsP
import Derived.Test.YtkjeocdobidadaaGreatRegionIx
namespace Go.Proofs.YtkjeocdobidadaaGreat
open Go.ChangeShapes Go.WideShapes Go.ChangeAt Go.RowKit
set_option linter.unusedVariables false
set_option linter.unusedSimpArgs false
set_option maxHeartbeats 4000000
set_option maxRecDepth 100000
def prk (r:Eb):ao9:=(r.name,r.rank,r.seq)
def prV (a b:Eb):Int:=wkV (prk a) (prk b)
theorem asP:Weak (kS prV):=by
 have h:=aqu;exact ⟨fun x=>h.irr (prk x),fun x y z=>h.tr (prk x) (prk y) (prk z),fun x y z=>h.neg (prk x) (prk y) (prk z)⟩
theorem asQ (rs:List Eb):(sortB (kS prV) [] rs).map prk = sortB (kS wkV) [] (rs.map prk):=ajm (lt:=kS wkV) prk rs []
theorem Sl.ints2w (W:World) (a b:Int) (t:TypeId) (ha:I64 a) (hb:I64 b) (N:Nat) (hN:W.heap.size = N):Sl (W.alloc (.cells #[.int .i64 a,.int .i64 b] t)) [a,b] (some ⟨N,0,none⟩) 2 [N]:=by
 subst hN;exact Sl.Va W [a,b] t (by intro x hx;simp only [List.mem_cons,List.not_mem_nil,or_false] at hx;rcases hx with rfl | rfl <;> assumption) (by unfold maxLen;simp)
theorem asR (x y:Eb) (w:World) :
 Calls Tryz.prog 92 #[.agg #[.string x.name,.slice x.la x.ln x.lc,.int .i64 x.cpu,.int .i64 x.mem,.int .i64 x.rank,.slice x.na x.nn x.nc,.slice x.ta x.tn x.tc,.string x.on,.int .i64 x.seq],.agg #[.string y.name,.slice y.la y.ln y.lc,.int .i64 y.cpu,.int .i64 y.mem,.int .i64 y.rank,.slice y.na y.nn y.nc,.slice y.ta y.tn y.tc,.string y.on,.int .i64 y.seq]] w fun e w'=>e = .returned (.int .i64 (prV x y))∧Below w.heap.size w w':=by
 have hr1:=BU y.rank x.rank;have hr2:=BU x.seq y.seq;go_enter Tryz.func92,Tryz.ntmps92;go_wp2_with fail
 refine nS ((w.alloc (.cells #[.string x.name,.slice x.la x.ln x.lc,.int .i64 x.cpu,.int .i64 x.mem,.int .i64 x.rank,.slice x.na x.nn x.nc,.slice x.ta x.tn x.tc,.string x.on,.int .i64 x.seq] 53)).alloc (.cells #[.string y.name,.slice y.la y.ln y.lc,.int .i64 y.cpu,.int .i64 y.mem,.int .i64 y.rank,.slice y.na y.nn y.nc,.slice y.ta y.tn y.tc,.string y.on,.int .i64 y.seq] 53)) [0,1,2,3,4,5,7,8,9,10] [6,11,12,13,14] U' U' (fun _ _ d _ _ h=>by cases d <;> exact h) (aj _) ?_;simp only [pick,List.getElem?_cons_succ,List.getElem?_cons_zero]
 iterate 10
  (apply dR
   case hy =>exact Zac7
   simp only [Act.put,pz])
 refine fE ?_;have hbx:=aA (aj ((w.alloc (.cells #[.string x.name,.slice x.la x.ln x.lc,.int .i64 x.cpu,.int .i64 x.mem,.int .i64 x.rank,.slice x.na x.nn x.nc,.slice x.ta x.tn x.tc,.string x.on,.int .i64 x.seq] 53)).alloc (.cells #[.string y.name,.slice y.la y.ln y.lc,.int .i64 y.cpu,.int .i64 y.mem,.int .i64 y.rank,.slice y.na y.nn y.nc,.slice y.ta y.tn y.tc,.string y.on,.int .i64 y.seq] 53)));refine aK rfl (fun K hK=>?_);go_simp;refine (EI y.rank x.rank _).mono ?_;rintro e wz ⟨rfl,hw⟩;simp only [hw];clear hw wz;refine hK _ _ hbx (fun _=>?_);try simp only [Act.put,pz]
 clear hK K;refine aK rfl (fun K hK=>?_);go_simp;refine (EI x.seq y.seq _).mono ?_;rintro e wz ⟨rfl,hw⟩;simp only [hw];clear hw wz;refine hK _ _ hbx (fun _=>?_);try simp only [Act.put,pz]
 clear hK K;refine aK rfl (fun K hK=>?_);go_simp;replace hbx:=ak hbx (.cells #[.int .i64 (Lib.compareInt y.rank x.rank),.int .i64 (Lib.compareInt x.seq y.seq)] 3);refine hK _ _ hbx (fun _=>?_);try simp only [Act.put,pz]
 clear hK K;have hS:=Sl.ape (Sl.ints2w ((w.alloc (.cells #[.string x.name,.slice x.la x.ln x.lc,.int .i64 x.cpu,.int .i64 x.mem,.int .i64 x.rank,.slice x.na x.nn x.nc,.slice x.ta x.tn x.tc,.string x.on,.int .i64 x.seq] 53)).alloc (.cells #[.string y.name,.slice y.la y.ln y.lc,.int .i64 y.cpu,.int .i64 y.mem,.int .i64 y.rank,.slice y.na y.nn y.nc,.slice y.ta y.tn y.tc,.string y.on,.int .i64 y.seq] 53)) _ _ 3 (I64.small hr1) (I64.small hr2) (w.heap.size+2) S');refine aK rfl (fun K hK=>?_);go_simp;refine (afl _ _ 2 _ _ _ hS rfl S').mono ?_;rintro e wz ⟨rfl,hw⟩;simp only [hw];clear hw wz;refine hK _ _ hbx (fun _=>?_);try simp only [Act.put,pz]
 clear hK K;refine aK rfl (fun K hK=>?_);go_simp;refine hK _ _ hbx (fun _=>?_);try simp only [Act.put,pz]
 clear hK K;refine dX ?_;go_wp2;go_ret
 exact ⟨rfl,ah (ak (ak (aj _) _) _) hbx⟩
theorem anB:(Tryz.prog.info? 53).map (fun i=>(i.zero,i.size,i.bytes)) = some (some (.agg #[.string ⟨#[]⟩,.slice none 0 0,.int .i64 0,.int .i64 0,.int .i64 0,.slice none 0 0,.slice none 0 0,.string ⟨#[]⟩,.int .i64 0]),9,136):=by kernel_rfl
theorem aqv:DL Tryz.prog 25 53 (.agg #[.string ⟨#[]⟩,.slice none 0 0,.int .i64 0,.int .i64 0,.int .i64 0,.slice none 0 0,.slice none 0 0,.string ⟨#[]⟩,.int .i64 0]) 9 136:=⟨Tryz.underlying25,anB,rfl,O'⟩
theorem anC:(Tryz.prog.info? 9).map (fun i=>(i.zero,i.size,i.bytes)) = some (some (.string ⟨#[]⟩),1,16):=by kernel_rfl
theorem ajn:DL Tryz.prog 49 9 (.string ⟨#[]⟩) 1 16:=⟨Tryz.underlying49,anC,rfl,O'⟩
theorem flat_get:∀(rs:List Eb) (k:Nat) (x:Eb),rs[k]? = some x→∀(j:Nat) (u:Value),(tH x)[j]? = some u→(rs.flatMap tH)[k * 9+j]? = some u
 | [],_,_,h,_,_,_=>by simp at h
 | r :: rs,0,x,h,j,u,hj=>by
   exact Zad0
 | r :: rs,k+1,x,h,j,u,hj=>by
   rw [List.getElem?_cons_succ] at h;have hl:(tH r).length = 9:=rfl;rw [List.flatMap_cons,List.getElem?_append_right O',hl,show (k+1) * 9+j - 9 = k * 9+j by omega];exact flat_get rs k x h j u hj
theorem ajo {β:Type} {lt:β→β→Bool} {z:β} : ∀(ys acc:List β),z∈sortB lt acc ys→z∈acc∨z∈ys
 | [],acc,h=>.inl h
 | y :: ys,acc,h=>by
   rw [sortB] at h;rcases ajo ys _ h with h | h
   ·exact Zac3
   ·exact .inr (List.mem_cons_of_mem _ h)
theorem acJ (w:World):∀ys:List ByteArray,(∀y∈ys,y.size≤maxLen)→jo w ys (ys.map Value.string) []
 | [],_=>⟨rfl,rfl⟩
 | y :: ys,h=>⟨[.string y],ys.map Value.string,[],[],rfl,rfl,⟨rfl,rfl,h y (List.mem_cons_self ..)⟩,acJ w ys fun z hz=>h z (List.mem_cons_of_mem _ hz)⟩
theorem apa {w:World} {B e size n:Nat} {v:Value} {xs:List Value} (h:w.ownsRow B e size v n xs):∃A c,v = .slice A n c:=by
 rcases h.2 with ⟨rfl,hn⟩ | ⟨g,cap,cur,rfl,_⟩
 ·subst hn;exact ⟨none,0,rfl⟩
 ·exact ⟨_,_,rfl⟩
theorem atM {w:World} {B e g cap:Nat} {rs:List Eb} (h:w.ownsRow B e 9 (.slice (some ⟨g,0,none⟩) rs.length cap) rs.length (rs.flatMap tH)):jJ tH 9 w w g 0 rs:=by
 refine ⟨fun k x hk j u hj=>?_,?_,.refl _ _⟩
 ·have:=(IE h).2.2.2 (k * 9+j) u (flat_get rs k x hk j u hj);rw [Nat.zero_add];exact this
 ·rcases h.2 with ⟨h1,_⟩ | ⟨g',cap',cur,h1,h2,h3,_⟩
  ·cases h1
  ·simp only [Value.slice.injEq,Option.some.injEq,Addr.mk.injEq,and_true,true_and] at h1;obtain ⟨rfl,rfl⟩:=h1;exact ⟨cur,e,h3⟩
theorem adz {w:World} {B e B':Nat} {v:Value} {xs:List ByteArray} {n:Nat} (h:w.ownsRow B e 1 v n (xs.map Value.string)) (hn:n = xs.length) (hB:B'≤B) (hz:∀y∈xs,y.size≤maxLen) :
 ∃A c G,v = .slice A xs.length c∧Own w B' xs [.slice A xs.length c] G:=by
 subst hn;exact Own.oJ (e:=e) (ds:=xs.map Value.string) (F:=[]) (vP h hB) ⟨acJ w _ hz,List.nodup_nil,(fun b hb=>by cases hb),(fun b hb=>by cases hb)⟩ (fun g _ hm=>by cases hm)
theorem abR (x:aU) (cs:List Value) (F:List Nat) (w:World) (h:rd w x cs F) (hl:(x.au.length:Int)≤1048576) :
 Calls Tryz.prog 42 #[.agg cs.toArray] w fun e w'=>∃A c G,e = .returned (.slice A (GI x.au).length c)∧Own w' w.heap.size (GI x.au) [.slice A (GI x.au).length c] G∧Below w.heap.size w w':=by
 obtain ⟨bG,bD,fQ,dn,bW,jg,hck,qp,bQ,dM,hnext,aV,aP,aW⟩:=aO h;subst hck;clear qp;go_enter Tryz.func42,Tryz.ntmps42;go_wp2_with fail
 go_loopw [3,13] (fun v i wr=>∃(k:Nat) (rs:List Eb),k≤x.au.length∧rs.length≤k∧i = .int .i64 (k:Int)∧Hid (rs.map prk = pend (x.au.take k))∧Hid (∀r∈rs,r.name.size≤maxLen)∧wr.ownsRow (w.heap.size+1) 53 9 v rs.length (rs.flatMap tH)∧Below w.heap.size w wr) (fun _ i _=>x.au.length - (intOf i).toNat)
 case atStart =>refine ⟨0,[],Nat.zero_le _,Nat.le_refl _,rfl,I' rfl,I' (fun r hr=>by cases hr),?_,ak (ak (aj _) _) _⟩;exact D9 (w.alloc (.cells #[.slice bG x.hosts.length bD,.slice dn x.au.length bW,.int .i64 x.next,.int .i64 x.weights.pack,.int .i64 x.weights.spread,.int .i64 x.weights.soft] 29)) 53 9 (w.heap.size+1) S'
 case round =>
  obtain ⟨k,rs,hk,hrk,rfl,HP,HZ,hown,hbl⟩:=hrel;by_cases hlt:k < x.au.length
  ·obtain ⟨b,o,ck,Fk,rfl,o9,hbs,hr,hsub,hc⟩:=Sl.get (α:=Placed) (A:=dn) (c:=bW) dM hlt;obtain ⟨c1,c2,F1,F2,rfl,rfl,QS,_,_,_,_,rfl,rfl,⟨rfl,rfl,hon⟩,⟨rfl,rfl,hseq⟩⟩:=hr;have abj:=QS;obtain ⟨gV,gW,lF,iR,iT,mV,dD,dF,iH,hck,su,nY,iE,rF,rG,oZ,je,dN⟩:=dL QS;subst hck;clear su QS iE je dN;have q0:w.cell? ⟨b,o+k * 9,none⟩ = some (.string x.au[k].aS.name):=(by exact hc 0 _ rfl);have q1:w.cell? ⟨b,o+k * 9+1,none⟩ = some (.slice gV x.au[k].aS.labels.length gW):=(by rw [Nat.add_assoc];exact hc 1 _ rfl);have q2:w.cell? ⟨b,o+k * 9+2,none⟩ = some (.int .i64 x.au[k].aS.cpu):=(by rw [Nat.add_assoc];exact hc 2 _ rfl);have q3:w.cell? ⟨b,o+k * 9+3,none⟩ = some (.int .i64 x.au[k].aS.mem):=(by rw [Nat.add_assoc];exact hc 3 _ rfl);have q4:w.cell? ⟨b,o+k * 9+4,none⟩ = some (.int .i64 x.au[k].aS.rank):=(by rw [Nat.add_assoc];exact hc 4 _ rfl);have q5:w.cell? ⟨b,o+k * 9+5,none⟩ = some (.slice iR x.au[k].aS.needs.length iT):=(by rw [Nat.add_assoc];exact hc 5 _ rfl);have q6:w.cell? ⟨b,o+k * 9+6,none⟩ = some (.slice dD x.au[k].aS.tolerances.length dF):=(by rw [Nat.add_assoc];exact hc 6 _ rfl);have q7:w.cell? ⟨b,o+k * 9+7,none⟩ = some (.string x.au[k].on):=(by rw [Nat.add_assoc];exact hc 7 _ rfl);have q8:w.cell? ⟨b,o+k * 9+8,none⟩ = some (.int .i64 x.au[k].seq):=(by rw [Nat.add_assoc];exact hc 8 _ rfl);clear hc;replace q0:=((ay hbl).1 b _ hbs).trans q0;replace q1:=((ay hbl).1 b _ hbs).trans q1;replace q2:=((ay hbl).1 b _ hbs).trans q2;replace q3:=((ay hbl).1 b _ hbs).trans q3;replace q4:=((ay hbl).1 b _ hbs).trans q4;replace q5:=((ay hbl).1 b _ hbs).trans q5;replace q6:=((ay hbl).1 b _ hbs).trans q6;replace q7:=((ay hbl).1 b _ hbs).trans q7;replace q8:=((ay hbl).1 b _ hbs).trans q8;clear abj;cases hp:(x.au[k].on.toList == []) with
   | false =>
     have HN:=I' (apO hlt hp);go_wp2_with fail
     exact ⟨⟨k+1,rs,O',O',N',I' (by rw [HN.out];exact HP.out),HZ,hown.alloc _,ak hbl _⟩,by simp [intOf];omega⟩
   | true =>
     have HY:=I' (anD hlt hp)
     go_wp2_with (
      at_builtin
      go_must (refine lC aqv J' _ _ J' _ _ _ _ _ (hown.alloc _) J' [.string x.au[k].aS.name,.slice gV x.au[k].aS.labels.length gW,.int .i64 x.au[k].aS.cpu,.int .i64 x.au[k].aS.mem,.int .i64 x.au[k].aS.rank,.slice iR x.au[k].aS.needs.length iT,.slice dD x.au[k].aS.tolerances.length dF,.string x.au[k].on,.int .i64 x.au[k].seq] aue J' aub O' O' avJ ?_)
      intro v2 w2 hown2 hg2 hz2
      go_must (have hb2:Below w.heap.size w w2:=lS (B:=w.heap.size) ((vP hown (Nat.le_succ _)).alloc _) hg2 (ak hbl _) avK))
     refine ⟨⟨k+1,rs++[⟨x.au[k].aS.name,gV,x.au[k].aS.labels.length,gW,x.au[k].aS.cpu,x.au[k].aS.mem,x.au[k].aS.rank,iR,x.au[k].aS.needs.length,iT,dD,x.au[k].aS.tolerances.length,dF,x.au[k].on,x.au[k].seq⟩],O',by rw [List.length_append];simp;omega,N',I' (by rw [HY.out,List.map_append,HP.out];rfl),I' (fun r hr=>?_),?_,hb2⟩,by simp [intOf];omega⟩
     ·rcases List.mem_append.1 hr with hr | hr
      ·exact HZ.out r hr
      ·rw [List.mem_singleton.1 hr];exact nY
     ·rw [List.length_append,List.flatMap_append];exact hown2
  ·have hkl:k = x.au.length:=O';subst hkl;have hpe:=HP.out;rw [List.take_length] at hpe;have hws:((sortB (kS prV) [] rs).map Eb.name) = GI x.au:=by
    unfold GI;rw [← hpe,← asQ,List.map_map];rfl
   have HWS:=I' hws;have hsl:(sortB (kS prV) [] rs).length = rs.length:=(by rw [rD];simp);have HSL:=I' hsl;clear hpe hws hsl HP;by_cases hE:rs = []
   ·subst hE;simp only [List.length_nil] at hown;obtain ⟨A,c,rfl⟩:=apa hown;clear hown;go_wp2_with fail
    refine (aeS _ A c _).mono ?_;rintro e w2 ⟨rfl,hw2⟩;subst hw2;go_wp2_with fail
    go_loopw [6,30] (fun v i wz=>i = .int .i64 0∧wz.ownsRow w.heap.size 9 1 v 0 ((GI x.au).map Value.string)∧Below w.heap.size w wz) (fun _ _ _=>0)
    case atStart=>exact ⟨rfl,by rw [← HWS.out];exact vP (D9 w2 9 1 w2.heap.size rfl) hbl.size,ak hbl _⟩
    case round =>
     obtain ⟨rfl,hrow,hbz⟩:=hrel;obtain ⟨A3,c3,G3,hv3,hO3⟩:=adz hrow (by rw [← HWS.out];rfl) (Nat.le_refl _) (by rw [← HWS.out];intro y hy;cases hy);have HV3:=I' hv3;have HO3:=I' hO3;clear hv3 hO3 hrow;go_wp2;go_ret
     exact ⟨A3,c3,G3,congrArg _ HV3.out,HO3.out,hbz⟩
   ·have hpos:0 < rs.length:=(by cases rs with | nil=>exact absurd rfl hE | cons a b=>simp);clear hE;obtain ⟨g,cap,hv,hgB,hgc,hgl⟩:=wW hown hpos;subst hv;have HST:=I' (atM hown);have hnn:rs.length≤1048576:=O';clear hown;go_wp2_with fail
    refine (aeR wr _ g 0 cap rs.length rs prV HST.out rfl hnn asP (fun a b wz _=>asR a b wz)).mono ?_;rintro e w2 ⟨rfl,hS⟩;have hB2:Below w.heap.size w w2:=hbl.trans (hS.upd.below (fun y hy=>by rw [List.mem_singleton.1 hy];omega) hbl.size);have aiE:g < w2.heap.size:=Nat.lt_of_lt_of_le hgl hS.upd.size;have HTB:=I' hS.tab;clear hS HST
    have HZS:=I' (show ∀r∈(sortB (kS prV) [] rs),r.name.size≤maxLen from fun r hr=>by
     rcases ajo _ _ hr with hr | hr
     ·cases hr
     ·exact HZ.out r hr)
    generalize (sortB (kS prV) [] rs) = S at *;go_wp2_with fail
    go_loopw [6,30] (fun v i wz=>∃k:Nat,k≤rs.length∧i = .int .i64 (k:Int)∧wz.ownsRow w2.heap.size 9 1 v k (((S.take k).map Eb.name).map Value.string)∧Below w2.heap.size w2 wz) (fun _ i _=>rs.length - (intOf i).toNat)
    case atStart=>exact ⟨0,Nat.zero_le _,rfl,D9 w2 9 1 w2.heap.size rfl,ak (aj _) _⟩
    case round =>
     obtain ⟨k,hk,rfl,hrow,hbz⟩:=hrel;by_cases hlt:k < rs.length
     ·have hks:k < S.length:=(by rw [HSL.out];exact hlt);obtain ⟨r,hr⟩:∃r,S[k] = r:=⟨_,rfl⟩;have hkr:S[k]? = some r:=(by rw [List.getElem?_eq_getElem hks,hr]);have q0:wr.cell? ⟨g,k * 9,none⟩ = some (.string r.name):=(by have:=HTB.out k r hkr 0 _ rfl;rw [Nat.zero_add] at this;exact (hbz.cell (p:=⟨g,k * 9,none⟩) aiE).trans this);have q1:wr.cell? ⟨g,k * 9+1,none⟩ = some (.slice r.la r.ln r.lc):=(by have:=HTB.out k r hkr 1 _ rfl;rw [Nat.zero_add] at this;exact (hbz.cell (p:=⟨g,k * 9+1,none⟩) aiE).trans this);have q2:wr.cell? ⟨g,k * 9+2,none⟩ = some (.int .i64 r.cpu):=(by have:=HTB.out k r hkr 2 _ rfl;rw [Nat.zero_add] at this;exact (hbz.cell (p:=⟨g,k * 9+2,none⟩) aiE).trans this);have q3:wr.cell? ⟨g,k * 9+3,none⟩ = some (.int .i64 r.mem):=(by have:=HTB.out k r hkr 3 _ rfl;rw [Nat.zero_add] at this;exact (hbz.cell (p:=⟨g,k * 9+3,none⟩) aiE).trans this);have q4:wr.cell? ⟨g,k * 9+4,none⟩ = some (.int .i64 r.rank):=(by have:=HTB.out k r hkr 4 _ rfl;rw [Nat.zero_add] at this;exact (hbz.cell (p:=⟨g,k * 9+4,none⟩) aiE).trans this);have q5:wr.cell? ⟨g,k * 9+5,none⟩ = some (.slice r.na r.nn r.nc):=(by have:=HTB.out k r hkr 5 _ rfl;rw [Nat.zero_add] at this;exact (hbz.cell (p:=⟨g,k * 9+5,none⟩) aiE).trans this);have q6:wr.cell? ⟨g,k * 9+6,none⟩ = some (.slice r.ta r.tn r.tc):=(by have:=HTB.out k r hkr 6 _ rfl;rw [Nat.zero_add] at this;exact (hbz.cell (p:=⟨g,k * 9+6,none⟩) aiE).trans this);have q7:wr.cell? ⟨g,k * 9+7,none⟩ = some (.string r.on):=(by have:=HTB.out k r hkr 7 _ rfl;rw [Nat.zero_add] at this;exact (hbz.cell (p:=⟨g,k * 9+7,none⟩) aiE).trans this);have q8:wr.cell? ⟨g,k * 9+8,none⟩ = some (.int .i64 r.seq):=(by have:=HTB.out k r hkr 8 _ rfl;rw [Nat.zero_add] at this;exact (hbz.cell (p:=⟨g,k * 9+8,none⟩) aiE).trans this);have htk:(S.take (k+1)).map Eb.name = (S.take k).map Eb.name++[r.name]:=(by rw [List.take_succ_eq_append_getElem hks,hr,List.map_append];rfl);have HTK:=I' htk;have hgr:g < wr.heap.size:=Nat.lt_of_lt_of_le aiE hbz.size;clear htk hkr hr
      go_wp2_with (
       at_builtin
       go_must (refine lC ajn J' _ _ J' _ _ _ _ _ (hrow.alloc _) J' [.string r.name] aue J' aub O' O' (by have:=hbz.size;(try simp);omega) ?_)
       intro v3 w3 hown3 hg3 hz3
       go_must (have hb3:Below w2.heap.size w2 w3:=lS (B:=w2.heap.size) (hrow.alloc _) hg3 (ak hbz _) (by have:=hbz.size;simp;omega)))
      exact ⟨⟨k+1,O',N',by rw [HTK.out,List.map_append];exact hown3,hb3⟩,by simp [intOf];omega⟩
     ·have hkl:k = rs.length:=O';subst hkl;have hSt:S.take rs.length = S:=List.take_of_length_le (by rw [HSL.out];exact Nat.le_refl _);rw [hSt,HWS.out] at hrow
      obtain ⟨A3,c3,G3,hv3,hO3⟩:=adz hrow (by rw [← HWS.out,List.length_map,HSL.out]) hB2.size (fun y hy=>by
       rw [← HWS.out] at hy;obtain ⟨r,hr,rfl⟩:=List.mem_map.1 hy
       exact HZS.out r hr)
      have HV3:=I' hv3;have HO3:=I' hO3;clear hv3 hO3 hrow;go_wp2;go_ret
      exact ⟨A3,c3,G3,congrArg _ HV3.out,HO3.out,hB2.trans (hbz.mono hB2.size)⟩
theorem asU:(Tryz.prog.info? 3).map (fun i=>(i.zero,i.size,i.bytes)) = some (some (.int .i64 0),1,8):=by kernel_rfl
theorem adA:DL Tryz.prog 64 3 (.int .i64 0) 1 8:=⟨Tryz.underlying64,asU,rfl,O'⟩
theorem asV {a b:Bool} (h:a = b):Ending.returned (.bool a) = .returned (.bool b):=by rw [h]
theorem ajp (x y:Eb) (w:World) :
 Calls Tryz.prog 95 #[.agg #[.string x.name,.slice x.la x.ln x.lc,.int .i64 x.cpu,.int .i64 x.mem,.int .i64 x.rank,.slice x.na x.nn x.nc,.slice x.ta x.tn x.tc,.string x.on,.int .i64 x.seq],.agg #[.string y.name,.slice y.la y.ln y.lc,.int .i64 y.cpu,.int .i64 y.mem,.int .i64 y.rank,.slice y.na y.nn y.nc,.slice y.ta y.tn y.tc,.string y.on,.int .i64 y.seq]] w fun e w'=>e = .returned (.bool (kS wkV (prk x) (prk y)))∧Below w.heap.size w w':=by
 have hlt:=alD (prk x) (prk y);have e1:(prk x).2.1 = x.rank:=rfl;have e2:(prk y).2.1 = y.rank:=rfl;have e3:(prk x).2.2 = x.seq:=rfl;have e4:(prk y).2.2 = y.seq:=rfl;rw [e1,e2,e3,e4] at hlt;clear e1 e2 e3 e4;generalize kS wkV (prk x) (prk y) = L at *;cases h1:decide (y.rank < x.rank) <;> cases h2:(x.rank == y.rank) <;> cases h3:decide (x.seq < y.seq)
 all_goals
  have HL:=I' hlt;have H1:=I' h1;have H2:=I' h2;have H3:=I' h3;clear hlt;go_enter Tryz.func95,Tryz.ntmps95;go_wp2;go_ret
  refine ⟨asV ?_,ak (ak (aj _) _) _⟩;have a1:=H1.out;have a2:=H2.out;have a3:=H3.out;have a4:=HL.out;simp at a1 a2 a3;cases L
  ·simp at a4 ⊢;try omega
  ·simp at a4 ⊢;try omega
def kAt (ps:List Placed) (i:Nat):ao9:=match ps[i]? with | some p=>wKeyOf p | none=>(⟨#[]⟩,0,0)
theorem alE {ps:List Placed} {i:Nat} (h:i < ps.length):kAt ps i = wKeyOf ps[i]:=by unfold kAt;rw [List.getElem?_eq_getElem h]
theorem abd {w:World} {ps:List Placed} {A:Option Addr} {c:Nat} {F:List Nat} (h:Sl w ps A c F) (hne:0 < ps.length):∃b o,A = some ⟨b,o,none⟩∧b < w.heap.size ∧
 ∀z (hz:z < ps.length),∃r:Eb,prk r = wKeyOf ps[z]∧r.on = ps[z].on∧r.name.size≤maxLen∧∀j u,(tH r)[j]? = some u→w.cell? ⟨b,o+z * 9+j,none⟩ = some u:=by
 obtain ⟨b,o,_,_,hA,_,hbs,_⟩:=Sl.get (α:=Placed) h hne;subst hA;refine ⟨b,o,rfl,hbs,fun z hz=>?_⟩;obtain ⟨b',o',ck,Fk,hA,o9,_,hr,hsub,hc⟩:=Sl.get (α:=Placed) h hz;simp only [Option.some.injEq,Addr.mk.injEq,and_true] at hA;obtain ⟨rfl,rfl⟩:=hA;obtain ⟨c1,c2,F1,F2,rfl,rfl,QS,_,_,_,_,rfl,rfl,⟨rfl,rfl,hon⟩,⟨rfl,rfl,hseq⟩⟩:=hr;obtain ⟨Al,cl,Fl,An,cn,Fn,At,ct,Ft,hck,su,hpn,_⟩:=dL QS;subst hck;refine ⟨⟨ps[z].aS.name,Al,ps[z].aS.labels.length,cl,ps[z].aS.cpu,ps[z].aS.mem,ps[z].aS.rank,An,ps[z].aS.needs.length,cn,At,ps[z].aS.tolerances.length,ct,ps[z].on,ps[z].seq⟩,rfl,rfl,hpn,fun j u hu=>?_⟩;have:=hc j u hu;rw [show o+(z * Dat.size Placed+j) = o+z * 9+j from by show o+(z * 9+j) = _;omega] at this;exact this
end Go.Proofs.YtkjeocdobidadaaGreat
