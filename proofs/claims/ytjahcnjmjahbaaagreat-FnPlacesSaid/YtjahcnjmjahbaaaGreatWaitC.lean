/- Waiting of the program. No condition. -/
import Derived.Test.YtjahcnjmjahbaaaGreatStabSP
import Derived.Test.YtjahcnjmjahbaaaGreatCmp2
import Derived.Shelf.Spec.SlicesInsert
import Derived.Lib.AppendZerosOnto
import Derived.Shelf.GgSortFunc.RowK
namespace Go.Proofs.YtjahcnjmjahbaaaGreat
open Go.ChangeShapes Go.WideShapes Go.ChangeAt Go.RowKit
set_option linter.unusedVariables false
set_option linter.unusedSimpArgs false
set_option maxHeartbeats 8000000
set_option maxRecDepth 100000
def gm (r:Eb):ym:=(r.name,r.av,r.seq)
def yo (a b:Eb):Int:=jl (gm a) (gm b)
theorem asP:da (kS yo):=by
 have h:=aqu;exact ⟨fun x=>h.o0 (gm x),fun x y z=>h.tr (gm x) (gm y) (gm z),fun x y z=>h.neg (gm x) (gm y) (gm z)⟩
theorem asQ (rs:List Eb):(aE (kS yo) [] rs).map gm = aE (kS jl) [] (rs.map gm):=ajm (lt:=kS jl) gm rs []
theorem Sl.C' (W:World) (a b:Int) (t:TypeId) (ha:bv a) (hb:bv b) (N:Nat) (hN:W.heap.size = N):Sl (W.alloc (.cells #[.int .i64 a,.int .i64 b] t)) [a,b] (some ⟨N,0,none⟩) 2 [N]:=by
 exact Kj
theorem asR (x y:Eb) (w:World) :
 Calls Tryz.prog 98 #[.agg #[.string x.name,.slice x.la x.ln x.lc,.int .i64 x.aw,.int .i64 x.mem,.int .i64 x.av,.slice x.na x.nn x.nc,.slice x.ta x.tn x.tc,.string x.on,.int .i64 x.seq],.agg #[.string y.name,.slice y.la y.ln y.lc,.int .i64 y.aw,.int .i64 y.mem,.int .i64 y.av,.slice y.na y.nn y.nc,.slice y.ta y.tn y.tc,.string y.on,.int .i64 y.seq]] w fun e w'=>e = .returned (.int .i64 (yo x y))∧Below w.heap.size w w':=by
 have dc:=BU y.av x.av;have dx:=BU x.seq y.seq;go_enter Tryz.func98,Tryz.ntmps98;go_wp2_with fail
 refine nS ((w.alloc (.cells #[.string x.name,.slice x.la x.ln x.lc,.int .i64 x.aw,.int .i64 x.mem,.int .i64 x.av,.slice x.na x.nn x.nc,.slice x.ta x.tn x.tc,.string x.on,.int .i64 x.seq] 48)).alloc (.cells #[.string y.name,.slice y.la y.ln y.lc,.int .i64 y.aw,.int .i64 y.mem,.int .i64 y.av,.slice y.na y.nn y.nc,.slice y.ta y.tn y.tc,.string y.on,.int .i64 y.seq] 48)) [0,1,2,3,4,5,7,8,9,10] [6,11,12,13,14] U' U' H' (aj _) ?_;simp only [cR,List.getElem?_cons_succ,List.getElem?_cons_zero]
 iterate 10
  (apply dR
   case hy =>exact rK
   simp only [Act.put,pz])
 refine fE ?_;have bc:=aA (aj ((w.alloc (.cells #[.string x.name,.slice x.la x.ln x.lc,.int .i64 x.aw,.int .i64 x.mem,.int .i64 x.av,.slice x.na x.nn x.nc,.slice x.ta x.tn x.tc,.string x.on,.int .i64 x.seq] 48)).alloc (.cells #[.string y.name,.slice y.la y.ln y.lc,.int .i64 y.aw,.int .i64 y.mem,.int .i64 y.av,.slice y.na y.nn y.nc,.slice y.ta y.tn y.tc,.string y.on,.int .i64 y.seq] 48)));refine aK rfl (fun K hK=>?_);go_simp;refine (EI y.av x.av _).mono ?_;rintro e wz ⟨rfl,hw⟩;simp only [hw];clear hw wz;refine hK _ _ bc (fun _=>?_);try simp only [Act.put,pz]
 clear hK K;refine aK rfl (fun K hK=>?_);go_simp;refine (EI x.seq y.seq _).mono ?_;rintro e wz ⟨rfl,hw⟩;simp only [hw];clear hw wz;refine hK _ _ bc (fun _=>?_);try simp only [Act.put,pz]
 clear hK K;refine aK rfl (fun K hK=>?_);go_simp;replace bc:=ak bc (.cells #[.int .i64 (Lib.compareInt y.av x.av),.int .i64 (Lib.compareInt x.seq y.seq)] 3);refine hK _ _ bc (fun _=>?_);try simp only [Act.put,pz]
 clear hK K;have hS:=Sl.PJ (Sl.C' ((w.alloc (.cells #[.string x.name,.slice x.la x.ln x.lc,.int .i64 x.aw,.int .i64 x.mem,.int .i64 x.av,.slice x.na x.nn x.nc,.slice x.ta x.tn x.tc,.string x.on,.int .i64 x.seq] 48)).alloc (.cells #[.string y.name,.slice y.la y.ln y.lc,.int .i64 y.aw,.int .i64 y.mem,.int .i64 y.av,.slice y.na y.nn y.nc,.slice y.ta y.tn y.tc,.string y.on,.int .i64 y.seq] 48)) _ _ 3 (bv.small dc) (bv.small dx) (w.heap.size+2) S');refine aK rfl (fun K hK=>?_);go_simp;refine (L9 _ _ 2 _ _ _ hS rfl S').mono ?_;rintro e wz ⟨rfl,hw⟩;simp only [hw];clear hw wz;refine hK _ _ bc (fun _=>?_);try simp only [Act.put,pz]
 clear hK K;refine aK rfl (fun K hK=>?_);go_simp;refine hK _ _ bc (fun _=>?_);try simp only [Act.put,pz]
 clear hK K;refine dX ?_;go_wp2;go_ret
 exact ⟨rfl,ah (ak (ak (aj _) _) _) bc⟩
def f9 {α:Type} (i:Nat) (x:α) (xs:List α):List α:=xs.take i++x :: xs.drop i
theorem Aw {α:Type} (i:Nat) (x:α) (xs:List α):(f9 i x xs).length = xs.length+1:=by simp [f9];omega
theorem aY.ins {α:Type} [bk α] {w:World} {B:Nat} {xs:List α} {x:α} {ds cs:List Value} {F G:List Nat} (h:aY w B xs ds F) (hx:am w B x cs G) (hd:∀y∈F,y∉G) (i:Nat) (hi:i≤xs.length) :
 ∃F',aY w B (f9 i x xs) (ds.take (i * bk.size α)++(cs++ds.drop (i * bk.size α))) F'∧(∀y∈F',y∈F∨y∈G):=by
 obtain ⟨hr,hn,hb,hp⟩:=h;rw [← List.take_append_drop i xs] at hr;obtain ⟨d1,d2,F1,F2,rfl,rfl,h1,h2⟩:=jo.fW hr;have hl:d1.length = i * bk.size α:=by rw [h1.len,List.length_take,Nat.min_eq_left hi]
 rw [← hl,List.take_left,List.drop_left];have Su:=List.nodup_append.1 hn;have br:∀y∈F1++(G++F2),y∈F1++F2∨y∈G:=fun y hy=>by
  simp only [List.mem_append] at hy ⊢;rcases hy with hy | hy | hy <;> simp [hy]
 refine ⟨F1++(G++F2),⟨h1.append ⟨cs,d2,G,F2,rfl,rfl,hx.rd,h2⟩,?_,fun y hy=>?_,fun y hy=>?_⟩,br⟩
 ·rw [List.nodup_append,List.nodup_append];refine ⟨Su.1,⟨hx.nodup,Su.2.1,fun a ha b ei e=>hd b (List.mem_append_right _ ei) (e ▸ ha)⟩,fun a ha b ei e=>?_⟩;rcases List.mem_append.1 ei with ei | ei
  ·exact hd a (List.mem_append_left _ ha) (e ▸ ei)
  ·exact Su.2.2 a ha b ei e
 ·rcases br y hy with hy | hy
  ·exact hb y hy
  ·exact hx.base y hy
 ·rcases br y hy with hy | hy
  ·exact hp y hy
  ·exact hx.plain y hy
theorem am.OJ {α:Type} [bk α] {w:World} {B:Nat} {xs:List α} {ds:List Value} {F:List Nat} {e:TypeId} {v:Value} (h0:w.ownsRow B e (bk.size α) v xs.length ds) (h:aY w B xs ds F) (cA:∀g,v.ownBlock = some g→g∉F):∃A c G,v = .slice A xs.length c∧am w B xs [.slice A xs.length c] G∧∀y∈G,y∈F∨v.ownBlock = some y:=by
 exact Hs
theorem aEj:(Tryz.prog.info? 38).map (fun i=>(i.zero,i.size,i.bytes)) = some (some (.agg #[.string ⟨#[]⟩,.slice none 0 0,.int .i64 0,.int .i64 0,.int .i64 0,.slice none 0 0]),6,88):=by kernel_rfl
theorem ng:DL Tryz.prog 24 38 (.agg #[.string ⟨#[]⟩,.slice none 0 0,.int .i64 0,.int .i64 0,.int .i64 0,.slice none 0 0]) 6 88:=⟨Tryz.underlying24,aEj,rfl,O⟩
theorem aCp:(Tryz.prog.info? 48).map (fun i=>(i.zero,i.size,i.bytes)) = some (some (.agg #[.string ⟨#[]⟩,.slice none 0 0,.int .i64 0,.int .i64 0,.int .i64 0,.slice none 0 0,.slice none 0 0,.string ⟨#[]⟩,.int .i64 0]),9,136):=by kernel_rfl
theorem nf:DL Tryz.prog 25 48 (.agg #[.string ⟨#[]⟩,.slice none 0 0,.int .i64 0,.int .i64 0,.int .i64 0,.slice none 0 0,.slice none 0 0,.string ⟨#[]⟩,.int .i64 0]) 9 136:=⟨Tryz.underlying25,aCp,rfl,O⟩
def ib (x:aD):List Value:=[.string x.key,.string x.value]
def gR (x:iU):List Value:=[.string x.key,.string x.value,.int .i64 x.an]
def gH (x:bH):List Value:=[.string x.key,.bool x.equal,.string x.value,.int .i64 x.an]
section
variable {β:Type} {row:β→List Value} {S:Nat}
theorem ud (hS:∀x,(row x).length = S):∀(D:List β) (k:Nat) (x:β),D[k]? = some x→∀(j:Nat) (u:Value),(row x)[j]? = some u→(D.flatMap row)[k * S+j]? = some u
 | [],_,_,h,_,_,_=>by simp at h
 | r :: rs,0,x,h,j,u,hj=>by
   exact KM
 | r :: rs,k+1,x,h,j,u,hj=>by
   rw [List.getElem?_cons_succ] at h;have hr:=hS r;have hk:(k+1) * S+j = k * S+j+S:=(by rw [Nat.succ_mul];omega);rw [List.flatMap_cons,List.getElem?_append_right O,hr,show (k+1) * S+j - S = k * S+j by omega];exact ud hS rs k x h j u hj
theorem lA (hS:∀x,(row x).length = S):∀D:List β,(D.flatMap row).length = D.length * S
 | []=>by simp
 | r :: rs=>by rw [List.flatMap_cons,List.length_append,hS,lA hS rs,List.length_cons,Nat.succ_mul];omega
theorem nw (h1:∀x,∀u∈row x,u.oneCell' = true) (D:List β):∀u∈D.flatMap row,u.oneCell' = true:=fun u hu=>by
 obtain ⟨x,_,hx⟩:=List.mem_flatMap.1 hu;exact h1 x u hx
theorem SZ [bk β] {w:World} {B e g aM:Nat} (hd:bk.size β = S) (D:List β) (h:w.ownsRow B e S (.slice (some ⟨g,0,none⟩) D.length aM) D.length (D.flatMap row)) (hr:∀x∈D,rd w x (row x) []):∃A c G,Value.slice (some ⟨g,0,none⟩) D.length aM = .slice A D.length c∧am w B D [.slice A D.length c] G:=by
 subst hd;have cJ:∀D:List β,(∀x∈D,rd w x (row x) [])→jo w D (D.flatMap row) []:=fun D=>by
  induction D with
  | nil=>intro _;exact ⟨rfl,rfl⟩
  | cons x D ih=>intro hD;exact ⟨row x,D.flatMap row,[],[],rfl,rfl,hD x (List.mem_cons_self ..),ih fun y hy=>hD y (List.mem_cons_of_mem _ hy)⟩
 exact K4
end
theorem xF (x:aD):∀u∈ib x,u.oneCell' = true:=by intro u hu;simp only [ib,List.mem_cons,List.not_mem_nil,or_false] at hu;rcases hu with rfl | rfl <;> rfl
theorem xD (x:iU):∀u∈gR x,u.oneCell' = true:=by intro u hu;simp only [gR,List.mem_cons,List.not_mem_nil,or_false] at hu;rcases hu with rfl | rfl | rfl <;> rfl
theorem xC (x:bH):∀u∈gH x,u.oneCell' = true:=by intro u hu;simp only [gH,List.mem_cons,List.not_mem_nil,or_false] at hu;rcases hu with rfl | rfl | rfl | rfl <;> rfl
theorem anB:(Tryz.prog.info? 48).map (fun i=>(i.zero,i.size,i.bytes)) = some (some (.agg #[.string ⟨#[]⟩,.slice none 0 0,.int .i64 0,.int .i64 0,.int .i64 0,.slice none 0 0,.slice none 0 0,.string ⟨#[]⟩,.int .i64 0]),9,136):=by kernel_rfl
theorem aqv:DL Tryz.prog 25 48 (.agg #[.string ⟨#[]⟩,.slice none 0 0,.int .i64 0,.int .i64 0,.int .i64 0,.slice none 0 0,.slice none 0 0,.string ⟨#[]⟩,.int .i64 0]) 9 136:=⟨Tryz.underlying25,anB,rfl,O⟩
theorem anC:(Tryz.prog.info? 9).map (fun i=>(i.zero,i.size,i.bytes)) = some (some (.string ⟨#[]⟩),1,16):=by kernel_rfl
theorem ajn:DL Tryz.prog 61 9 (.string ⟨#[]⟩) 1 16:=⟨Tryz.underlying61,anC,rfl,O⟩
theorem flat_get:∀(rs:List Eb) (k:Nat) (x:Eb),rs[k]? = some x→∀(j:Nat) (u:Value),(tH x)[j]? = some u→(rs.flatMap tH)[k * 9+j]? = some u
 | [],_,_,h,_,_,_=>by simp at h
 | r :: rs,0,x,h,j,u,hj=>by
   exact KM
 | r :: rs,k+1,x,h,j,u,hj=>by
   rw [List.getElem?_cons_succ] at h;have hl:(tH r).length = 9:=rfl;rw [List.flatMap_cons,List.getElem?_append_right O,hl,show (k+1) * 9+j - 9 = k * 9+j by omega];exact flat_get rs k x h j u hj
theorem ajo {β:Type} {lt:β→β→Bool} {z:β} : ∀(ys acc:List β),z∈aE lt acc ys→z∈acc∨z∈ys
 | [],acc,h=>.inl h
 | y :: ys,acc,h=>by
   rw [aE] at h;rcases ajo ys _ h with h | h
   ·exact Bl
   ·exact .inr (List.mem_cons_of_mem _ h)
theorem acJ (w:World):∀ys:List ByteArray,(∀y∈ys,y.size≤maxLen)→jo w ys (ys.map Value.string) []
 | [],_=>⟨rfl,rfl⟩
 | y :: ys,h=>⟨[.string y],ys.map Value.string,[],[],rfl,rfl,⟨rfl,rfl,h y (List.mem_cons_self ..)⟩,acJ w ys fun z hz=>h z (List.mem_cons_of_mem _ hz)⟩
theorem apa {w:World} {B e size n:Nat} {v:Value} {xs:List Value} (h:w.ownsRow B e size v n xs):∃A c,v = .slice A n c:=by
 exact Lb
theorem atM {w:World} {B e g aM:Nat} {rs:List Eb} (h:w.ownsRow B e 9 (.slice (some ⟨g,0,none⟩) rs.length aM) rs.length (rs.flatMap tH)):jJ tH 9 w w g 0 rs:=by
 refine ⟨fun k x hk j u hj=>?_,?_,.refl _ _⟩
 ·have:=(IE h).2.2.2 (k * 9+j) u (flat_get rs k x hk j u hj);rw [Nat.zero_add];exact this
 ·rcases h.2 with ⟨h1,_⟩ | ⟨g',cap',ep,h1,h2,h3,_⟩
  ·cases h1
  ·simp only [Value.slice.injEq,Option.some.injEq,Addr.mk.injEq,and_true,true_and] at h1;obtain ⟨rfl,rfl⟩:=h1;exact ⟨ep,e,h3⟩
theorem UM {w:World} {B e B':Nat} {v:Value} {xs:List ByteArray} {n:Nat} (h:w.ownsRow B e 1 v n (xs.map Value.string)) (hn:n = xs.length) (hB:B'≤B) (hz:∀y∈xs,y.size≤maxLen) :
 ∃A c G,v = .slice A xs.length c∧am w B' xs [.slice A xs.length c] G:=by
 subst hn;exact am.oJ (e:=e) (ds:=xs.map Value.string) (F:=[]) (vP h hB) ⟨acJ w _ hz,List.nodup_nil,(fun b hb=>by cases hb),(fun b hb=>by cases hb)⟩ (fun g _ hm=>by cases hm)
theorem abR (x:aU) (cs:List Value) (F:List Nat) (w:World) (h:rd w x cs F) (hl:(x.J.length:Int)≤1048576) :
 Calls Tryz.prog 59 #[.agg cs.toArray] w fun e w'=>∃A c G,e = .returned (.slice A (GI x.J).length c)∧am w' w.heap.size (GI x.J) [.slice A (GI x.J).length c] G∧Below w.heap.size w w':=by
 obtain ⟨bG,bD,fQ,dn,bW,jg,ax,qp,bQ,dM,hnext,aV,aP,aW⟩:=aO h;subst ax;clear qp;go_enter Tryz.func59,Tryz.ntmps59;go_wp2_with fail
 go_loopw [3,13] (fun v i wr=>∃(k:Nat) (rs:List Eb),k≤x.J.length∧rs.length≤k∧i = .int .i64 (k:Int)∧Hid (rs.map gm = eI (x.J.take k))∧Hid (∀r∈rs,r.name.size≤maxLen)∧wr.ownsRow (w.heap.size+1) 48 9 v rs.length (rs.flatMap tH)∧Below w.heap.size w wr) (fun _ i _=>x.J.length - (intOf i).toNat)
 case atStart =>refine ⟨0,[],Nat.zero_le _,Nat.le_refl _,rfl,I rfl,I (fun r hr=>by cases hr),?_,ak (ak (aj _) _) _⟩;exact D9 (w.alloc (.cells #[.slice bG x.aa.length bD,.slice dn x.J.length bW,.int .i64 x.next,.int .i64 x.weights.pack,.int .i64 x.weights.af,.int .i64 x.weights.al] 29)) 48 9 (w.heap.size+1) S'
 case round =>
  obtain ⟨k,rs,hk,hrk,rfl,HP,HZ,aR,az⟩:=hrel;by_cases ap:k < x.J.length
  ·obtain ⟨b,o,ck,Fk,rfl,o9,hbs,hr,br,hc⟩:=Sl.get (α:=ag) (A:=dn) (c:=bW) dM ap;obtain ⟨c1,c2,F1,F2,rfl,rfl,QS,_,_,_,_,rfl,rfl,⟨rfl,rfl,ed⟩,⟨rfl,rfl,hseq⟩⟩:=hr;have l6:=QS;obtain ⟨gV,gW,lF,iR,iT,mV,dD,dF,iH,ax,su,nY,iE,rF,rG,oZ,je,dN⟩:=dL QS;subst ax;clear su QS iE je dN;obtain ⟨q0,q1,q2,q3,q4,q5,q6,q7,q8⟩:=om 9 hc;clear hc;replace q0:=r' az q0 hbs;replace q1:=r' az q1 hbs;replace q2:=r' az q2 hbs;replace q3:=r' az q3 hbs;replace q4:=r' az q4 hbs;replace q5:=r' az q5 hbs;replace q6:=r' az q6 hbs;replace q7:=r' az q7 hbs;replace q8:=r' az q8 hbs;clear l6;cases hp:(x.J[k].on.toList == []) with
   | false =>
     have HN:=I (apO ap hp);go_wp2_with fail
     exact ⟨⟨k+1,rs,O,O,N',I (by rw [HN.out];exact HP.out),HZ,aR.alloc _,ak az _⟩,by simp [intOf];omega⟩
   | true =>
     have HY:=I (anD ap hp)
     go_wp2_with (
      at_builtin
      go_must (refine lC aqv Z _ _ Z _ _ _ _ _ (aR.alloc _) Z [.string x.J[k].aS.name,.slice gV x.J[k].aS.labels.length gW,.int .i64 x.J[k].aS.aw,.int .i64 x.J[k].aS.mem,.int .i64 x.J[k].aS.av,.slice iR x.J[k].aS.ai.length iT,.slice dD x.J[k].aS.ae.length dF,.string x.J[k].on,.int .i64 x.J[k].seq] ly Z e' O O RP ?_)
      intro v2 w2 dT et cI
      go_must (have ao:Below w.heap.size w w2:=lS (B:=w.heap.size) ((vP aR (Nat.le_succ _)).alloc _) et (ak az _) L6))
     refine ⟨⟨k+1,rs++[⟨x.J[k].aS.name,gV,x.J[k].aS.labels.length,gW,x.J[k].aS.aw,x.J[k].aS.mem,x.J[k].aS.av,iR,x.J[k].aS.ai.length,iT,dD,x.J[k].aS.ae.length,dF,x.J[k].on,x.J[k].seq⟩],O,by rw [List.length_append];simp;omega,N',I (by rw [HY.out,List.map_append,HP.out];rfl),I (fun r hr=>?_),?_,ao⟩,by simp [intOf];omega⟩
     ·rcases List.mem_append.1 hr with hr | hr
      ·exact HZ.out r hr
      ·rw [List.mem_singleton.1 hr];exact nY
     ·rw [List.length_append,List.flatMap_append];exact dT
  ·have bz:k = x.J.length:=O;subst bz;have UP:=HP.out;rw [List.take_length] at UP;have Nn:((aE (kS yo) [] rs).map Eb.name) = GI x.J:=by
    unfold GI;rw [← UP,← asQ,List.map_map];rfl
   have uu:=I Nn;have ia:(aE (kS yo) [] rs).length = rs.length:=(by rw [rD];simp);have cU:=I ia;clear UP Nn ia HP;by_cases hE:rs = []
   ·subst hE;simp only [List.length_nil] at aR;obtain ⟨A,c,rfl⟩:=apa aR;clear aR;go_wp2_with fail
    refine (aeS _ A c _).mono ?_;rintro e w2 ⟨rfl,mv⟩;subst mv;go_wp2_with fail
    go_loopw [6,30] (fun v i wz=>i = .int .i64 0∧wz.ownsRow w.heap.size 9 1 v 0 ((GI x.J).map Value.string)∧Below w.heap.size w wz) (fun _ _ _=>0)
    case atStart=>exact ⟨rfl,by rw [← uu.out];exact vP (D9 w2 9 1 w2.heap.size rfl) az.size,ak az _⟩
    case round =>
     obtain ⟨rfl,bA,dd⟩:=hrel;obtain ⟨A3,c3,G3,iA,hO3⟩:=UM bA (by rw [← uu.out];rfl) (Nat.le_refl _) (by rw [← uu.out];intro y hy;cases hy);have Nq:=I iA;have fG:=I hO3;clear iA hO3 bA;go_wp2;go_ret
     exact ⟨A3,c3,G3,congrArg _ Nq.out,fG.out,dd⟩
   ·have fc:0 < rs.length:=(by cases rs with | nil=>exact absurd rfl hE | cons a b=>simp);clear hE;obtain ⟨g,aM,hv,hgB,hgc,kF⟩:=wW aR fc;subst hv;have Bg:=I (atM aR);have UR:rs.length≤1048576:=O;clear aR;go_wp2_with fail
    refine (aeR wr _ g 0 aM rs.length rs yo Bg.out rfl UR asP (fun a b wz _=>asR a b wz)).mono ?_;rintro e w2 ⟨rfl,hS⟩;have dE:Below w.heap.size w w2:=az.trans (hS.cN.aL (fun y hy=>by rw [List.mem_singleton.1 hy];omega) az.size);have uv:g < w2.heap.size:=Nat.lt_of_lt_of_le kF hS.cN.size;have wH:=I hS.bB;clear hS Bg
    have HZS:=I (show ∀r∈(aE (kS yo) [] rs),r.name.size≤maxLen from fun r hr=>by
     rcases ajo _ _ hr with hr | hr
     ·cases hr
     ·exact HZ.out r hr)
    generalize (aE (kS yo) [] rs) = S at *;go_wp2_with fail
    go_loopw [6,30] (fun v i wz=>∃k:Nat,k≤rs.length∧i = .int .i64 (k:Int)∧wz.ownsRow w2.heap.size 9 1 v k (((S.take k).map Eb.name).map Value.string)∧Below w2.heap.size w2 wz) (fun _ i _=>rs.length - (intOf i).toNat)
    case atStart=>exact ⟨0,Nat.zero_le _,rfl,D9 w2 9 1 w2.heap.size rfl,ak (aj _) _⟩
    case round =>
     obtain ⟨k,hk,rfl,bA,dd⟩:=hrel;by_cases ap:k < rs.length
     ·have fI:k < S.length:=(by rw [cU.out];exact ap);obtain ⟨r,hr⟩:∃r,S[k] = r:=⟨_,rfl⟩;have m':S[k]? = some r:=(by rw [List.getElem?_eq_getElem fI,hr]);have q0:wr.cell? ⟨g,k * 9,none⟩ = some (.string r.name):=(by have:=wH.out k r m' 0 _ rfl;rw [Nat.zero_add] at this;exact (dd.cell (p:=⟨g,k * 9,none⟩) uv).trans this);have q1:wr.cell? ⟨g,k * 9+1,none⟩ = some (.slice r.la r.ln r.lc):=(by have:=wH.out k r m' 1 _ rfl;rw [Nat.zero_add] at this;exact (dd.cell (p:=⟨g,k * 9+1,none⟩) uv).trans this);have q2:wr.cell? ⟨g,k * 9+2,none⟩ = some (.int .i64 r.aw):=(by have:=wH.out k r m' 2 _ rfl;rw [Nat.zero_add] at this;exact (dd.cell (p:=⟨g,k * 9+2,none⟩) uv).trans this);have q3:wr.cell? ⟨g,k * 9+3,none⟩ = some (.int .i64 r.mem):=(by have:=wH.out k r m' 3 _ rfl;rw [Nat.zero_add] at this;exact (dd.cell (p:=⟨g,k * 9+3,none⟩) uv).trans this);have q4:wr.cell? ⟨g,k * 9+4,none⟩ = some (.int .i64 r.av):=(by have:=wH.out k r m' 4 _ rfl;rw [Nat.zero_add] at this;exact (dd.cell (p:=⟨g,k * 9+4,none⟩) uv).trans this);have q5:wr.cell? ⟨g,k * 9+5,none⟩ = some (.slice r.na r.nn r.nc):=(by have:=wH.out k r m' 5 _ rfl;rw [Nat.zero_add] at this;exact (dd.cell (p:=⟨g,k * 9+5,none⟩) uv).trans this);have q6:wr.cell? ⟨g,k * 9+6,none⟩ = some (.slice r.ta r.tn r.tc):=(by have:=wH.out k r m' 6 _ rfl;rw [Nat.zero_add] at this;exact (dd.cell (p:=⟨g,k * 9+6,none⟩) uv).trans this);have q7:wr.cell? ⟨g,k * 9+7,none⟩ = some (.string r.on):=(by have:=wH.out k r m' 7 _ rfl;rw [Nat.zero_add] at this;exact (dd.cell (p:=⟨g,k * 9+7,none⟩) uv).trans this);have q8:wr.cell? ⟨g,k * 9+8,none⟩ = some (.int .i64 r.seq):=(by have:=wH.out k r m' 8 _ rfl;rw [Nat.zero_add] at this;exact (dd.cell (p:=⟨g,k * 9+8,none⟩) uv).trans this);have lZ:(S.take (k+1)).map Eb.name = (S.take k).map Eb.name++[r.name]:=(by rw [List.take_succ_eq_append_getElem fI,hr,List.map_append];rfl);have IP:=I lZ;have l4:g < wr.heap.size:=Nat.lt_of_lt_of_le uv dd.size;clear lZ m' hr
      go_wp2_with (
       at_builtin
       go_must (refine lC ajn Z _ _ Z _ _ _ _ _ (bA.alloc _) Z [.string r.name] ly Z e' O O (by have:=dd.size;(try simp);omega) ?_)
       intro v3 w3 d8 mU ez
       go_must (have bd:Below w2.heap.size w2 w3:=lS (B:=w2.heap.size) (bA.alloc _) mU (ak dd _) (by have:=dd.size;simp;omega)))
      exact ⟨⟨k+1,O,N',by rw [IP.out,List.map_append];exact d8,bd⟩,by simp [intOf];omega⟩
     ·have bz:k = rs.length:=O;subst bz;have hSt:S.take rs.length = S:=List.take_of_length_le (by rw [cU.out];exact Nat.le_refl _);rw [hSt,uu.out] at bA
      obtain ⟨A3,c3,G3,iA,hO3⟩:=UM bA (by rw [← uu.out,List.length_map,cU.out]) dE.size (fun y hy=>by
       rw [← uu.out] at hy;obtain ⟨r,hr,rfl⟩:=List.mem_map.1 hy
       exact HZS.out r hr)
      have Nq:=I iA;have fG:=I hO3;clear iA hO3 bA;go_wp2;go_ret
      exact ⟨A3,c3,G3,congrArg _ Nq.out,fG.out,dE.trans (dd.mono dE.size)⟩
theorem asU:(Tryz.prog.info? 3).map (fun i=>(i.zero,i.size,i.bytes)) = some (some (.int .i64 0),1,8):=by kernel_rfl
theorem EL:DL Tryz.prog 109 3 (.int .i64 0) 1 8:=⟨Tryz.underlying109,asU,rfl,O⟩
theorem asV {a b:Bool} (h:a = b):Ending.returned (.bool a) = .returned (.bool b):=by rw [h]
theorem ajp (x y:Eb) (w:World) :
 Calls Tryz.prog 60 #[.agg #[.string x.name,.slice x.la x.ln x.lc,.int .i64 x.aw,.int .i64 x.mem,.int .i64 x.av,.slice x.na x.nn x.nc,.slice x.ta x.tn x.tc,.string x.on,.int .i64 x.seq],.agg #[.string y.name,.slice y.la y.ln y.lc,.int .i64 y.aw,.int .i64 y.mem,.int .i64 y.av,.slice y.na y.nn y.nc,.slice y.ta y.tn y.tc,.string y.on,.int .i64 y.seq]] w fun e w'=>e = .returned (.bool (kS jl (gm x) (gm y)))∧Below w.heap.size w w':=by
 have ap:=Uw (gm x) (gm y);have e1:(gm x).2.1 = x.av:=rfl;have e2:(gm y).2.1 = y.av:=rfl;have e3:(gm x).2.2 = x.seq:=rfl;have e4:(gm y).2.2 = y.seq:=rfl;rw [e1,e2,e3,e4] at ap;clear e1 e2 e3 e4;generalize kS jl (gm x) (gm y) = L at *;cases h1:decide (y.av < x.av) <;> cases h2:(x.av == y.av) <;> cases h3:decide (x.seq < y.seq)
 all_goals
  have HL:=I ap;have H1:=I h1;have H2:=I h2;have H3:=I h3;clear ap;go_enter Tryz.func60,Tryz.ntmps60;go_wp2;go_ret
  refine ⟨asV ?_,ak (ak (aj _) _) _⟩;have a1:=H1.out;have a2:=H2.out;have a3:=H3.out;have a4:=HL.out;simp at a1 a2 a3;cases L
  ·simp at a4 ⊢;try omega
  ·simp at a4 ⊢;try omega
def oV (ps:List ag) (i:Nat):ym:=match ps[i]? with | some p=>EC p | none=>(⟨#[]⟩,0,0)
theorem Qu {ps:List ag} {i:Nat} (h:i < ps.length):oV ps i = EC ps[i]:=by unfold oV;rw [List.getElem?_eq_getElem h]
theorem US {w:World} {ps:List ag} {A:Option Addr} {c:Nat} {F:List Nat} (h:Sl w ps A c F) (cA:0 < ps.length):∃b o,A = some ⟨b,o,none⟩∧b < w.heap.size ∧
 ∀z (hz:z < ps.length),∃r:Eb,gm r = EC ps[z]∧r.on = ps[z].on∧r.name.size≤maxLen∧∀j u,(tH r)[j]? = some u→w.cell? ⟨b,o+z * 9+j,none⟩ = some u:=by
 obtain ⟨b,o,_,_,hA,_,hbs,_⟩:=Sl.get (α:=ag) h cA;subst hA;refine ⟨b,o,rfl,hbs,fun z hz=>?_⟩;obtain ⟨b',o',ck,Fk,hA,o9,_,hr,br,hc⟩:=Sl.get (α:=ag) h hz;simp only [Option.some.injEq,Addr.mk.injEq,and_true] at hA;obtain ⟨rfl,rfl⟩:=hA;obtain ⟨c1,c2,F1,F2,rfl,rfl,QS,_,_,_,_,rfl,rfl,⟨rfl,rfl,ed⟩,⟨rfl,rfl,hseq⟩⟩:=hr;obtain ⟨Al,cl,Fl,An,cn,Fn,At,ct,Ft,ax,su,hpn,_⟩:=dL QS;subst ax;refine ⟨⟨ps[z].aS.name,Al,ps[z].aS.labels.length,cl,ps[z].aS.aw,ps[z].aS.mem,ps[z].aS.av,An,ps[z].aS.ai.length,cn,At,ps[z].aS.ae.length,ct,ps[z].on,ps[z].seq⟩,rfl,rfl,hpn,fun j u hu=>?_⟩;have:=hc j u hu;rw [show o+(z * bk.size ag+j) = o+z * 9+j from by show o+(z * 9+j) = _;omega] at this;exact this
theorem UT (x:aU) (cs:List Value) (F:List Nat) (w:World) (h:rd w x cs F) (hl:(x.J.length:Int)≤1048576) :
 Calls Tryz.prog 22 #[.agg cs.toArray] w fun e w'=>∃A c G,e = .returned (.slice A (GI x.J).length c)∧am w' w.heap.size (GI x.J) [.slice A (GI x.J).length c] G∧Below w.heap.size w w':=by
 obtain ⟨bG,bD,fQ,dn,bW,jg,ax,qp,bQ,dM,hnext,aV,aP,aW⟩:=aO h;subst ax;clear qp;go_enter Tryz.func22,Tryz.ntmps22;go_wp2_with fail
 go_loopw [3,4] (fun v i wr=>∃(k:Nat) (is:List Nat) (g aM:Nat),k≤x.J.length∧is.length≤k∧i = .int .i64 (k:Int)∧v = .slice (some ⟨g,0,none⟩) is.length aM∧Hid (∀z∈is,z < x.J.length)∧Hid (is.map (oV x.J) = aE (kS jl) [] (eI (x.J.take k)))∧wr.ownsRow (w.heap.size+1) 3 1 (.slice (some ⟨g,0,none⟩) is.length aM) is.length (is.map (fun j:Nat=>Value.int .i64 (j:Int)))∧wr.cell? ⟨w.heap.size,1,none⟩ = some (.slice dn x.J.length bW)∧Below w.heap.size w wr) (fun _ i _=>x.J.length - (intOf i).toNat)
 case atStart =>
  refine ⟨0,[],w.heap.size+1,0,Nat.zero_le _,Nat.le_refl _,rfl,S',I (fun z hz=>by cases hz),I rfl,?_,?_,ak (ak (aj _) _) _⟩
  ·exact D9 (w.alloc (.cells #[.slice bG x.aa.length bD,.slice dn x.J.length bW,.int .i64 x.next,.int .i64 x.weights.pack,.int .i64 x.weights.af,.int .i64 x.weights.al] 29)) 3 1 (w.heap.size+1) S'
  ·exact Bf
 case round =>
  obtain ⟨k,is,g,aM,hk,hik,rfl,rfl,HIS,HMAP,bA,hqc,az⟩:=hrel;have Mm:w.heap.size < wr.heap.size:=World.block_lt_of_cell? wr _ hqc;by_cases ap:k < x.J.length
  ·obtain ⟨wo,hwo⟩:∃wo,wo = wr:=⟨_,rfl⟩;subst hwo;obtain ⟨b,o,rfl,hbs,hpc⟩:=US dM O;have HPC:=I hpc;clear hpc;obtain ⟨y,sF,CK,qd,nt⟩:=HPC.out k ap;have ff:b < wo.heap.size:=Nat.lt_of_lt_of_le hbs az.size;have qX:wo.cell? ⟨b,o+k * 9,none⟩ = some (.string y.name):=r' az (nt 0 _ rfl) hbs;have ra:wo.cell? ⟨b,o+k * 9+1,none⟩ = some (.slice y.la y.ln y.lc):=r' az (nt 1 _ rfl) hbs;have rc:wo.cell? ⟨b,o+k * 9+2,none⟩ = some (.int .i64 y.aw):=r' az (nt 2 _ rfl) hbs;have re:wo.cell? ⟨b,o+k * 9+3,none⟩ = some (.int .i64 y.mem):=r' az (nt 3 _ rfl) hbs;have rg:wo.cell? ⟨b,o+k * 9+4,none⟩ = some (.int .i64 y.av):=r' az (nt 4 _ rfl) hbs;have rh:wo.cell? ⟨b,o+k * 9+5,none⟩ = some (.slice y.na y.nn y.nc):=r' az (nt 5 _ rfl) hbs;have ri:wo.cell? ⟨b,o+k * 9+6,none⟩ = some (.slice y.ta y.tn y.tc):=r' az (nt 6 _ rfl) hbs;have rj:wo.cell? ⟨b,o+k * 9+7,none⟩ = some (.string y.on):=r' az (nt 7 _ rfl) hbs;have rm:wo.cell? ⟨b,o+k * 9+8,none⟩ = some (.int .i64 y.seq):=r' az (nt 8 _ rfl) hbs;have HYC:=I nt;have HYK:=I sF;cases hp:(x.J[k].on.toList == []) with
   | false =>
     have HN:=I (apO ap hp);have tS:(y.on.toList == []) = false:=(by rw [CK];exact hp);have Sw:(y.on.toList != []) = true:=(by rw [bne,tS];rfl);clear nt CK sF hp;go_wp2_with fail
     exact ⟨⟨k+1,is,g,aM,O,O,N',rfl,HIS,I (by rw [HN.out];exact HMAP.out),bA,hqc,az⟩,by simp [intOf];omega⟩
   | true =>
     have tS:(y.on.toList == []) = true:=(by rw [CK];exact hp);have Sw:(y.on.toList != []) = false:=(by rw [bne,tS];rfl);have ee:aE (kS jl) [] (eI (x.J.take (k+1))) = OM (kS jl) (gm y) (aE (kS jl) [] (eI (x.J.take k))):=(by rw [anD ap hp,V3,sF]);have Jf:=I ee;have Pd:=I (show oV x.J k = gm y by rw [Qu ap,sF]);have fi:=I az;have im:=I bA;have UV:=I hqc;obtain ⟨_,hgo,hgc,ahU⟩:=IE bA;have lM:=I ahU;clear nt CK sF hp ee bA ahU;go_wp2_with fail
     go_loopw [5] (fun j wr=>∃(s1 s2:List Nat) (jj:Nat),Hid (is = s1++s2)∧j = .int .i64 (jj:Int)∧Hid (s1.length = jj)∧Hid (∀z∈s1,kS jl (gm y) (oV x.J z) = false)∧Below wo.heap.size wo wr) (fun j _=>is.length - (intOf j).toNat)
     case atStart=>exact ⟨[],is,0,I rfl,rfl,I rfl,I (fun z hz=>by cases hz),aj _⟩
     case round =>
      obtain ⟨s1,s2,jj,HE,rfl,HJ,HN,bS⟩:=hrel;have mc:∀bq oq u,wo.cell? ⟨bq,oq,none⟩ = some u→bq < wo.heap.size→wr.cell? ⟨bq,oq,none⟩ = some u:=fun bq oq u h1 h2=>(bS.cell (p:=⟨bq,oq,none⟩) h2).trans h1;have PT:=mc _ _ _ UV.out Mm;replace qX:=mc _ _ _ qX ff;replace ra:=mc _ _ _ ra ff;replace rc:=mc _ _ _ rc ff;replace re:=mc _ _ _ re ff;replace rg:=mc _ _ _ rg ff;replace rh:=mc _ _ _ rh ff;replace ri:=mc _ _ _ ri ff;replace rj:=mc _ _ _ rj ff;replace rm:=mc _ _ _ rm ff;have MC:=I mc;have px:wo.heap.size≤wr.heap.size:=bS.size;have nx:b < wr.heap.size:=O;have hqzr:w.heap.size < wr.heap.size:=O;have l4:g < wr.heap.size:=O;clear mc;cases s2 with
      | nil =>
        have fX:jj = is.length:=(by have e1:=HE.out;have e3:=HJ.out;rw [e1,List.append_nil];exact e3.symm);have py:is.length≤jj:=O;have pA:decide ((jj:Int) < (is.length:Int)) = false:=(by simp;omega);have pB:decide (jj < is.length) = false:=(by simp;omega);have D1:=I (show (s1++k :: ([]:List Nat)).length = is.length+1 by rw [List.length_append,HJ.out,fX];rfl);have Xi:=I (show ([]:List Nat).map (oV x.J) = []∨∃z s',([]:List Nat).map (oV x.J) = z :: s'∧kS jl (gm y) z = true from .inl rfl);clear fX;go_wp2_with fail
        refine aF wr U' U' (aj _) ?_
        repeat ((first | refine aG Z ?_ | refine aH _ Z Ja ?_);simp only [Act.put,pz])
        refine aN ?_;intro wn hn;replace hn:=hn.out;have bE:Below wo.heap.size wo wn:=ah bS hn;have RJ:=mG im.out bE;obtain ⟨_,eT,apy,V4⟩:=IE RJ
        have eJ:=I (show ∀q u,(s1.map (fun j:Nat=>Value.int .i64 (j:Int)))[q]? = some u→wn.cell? ⟨g,0+q,none⟩ = some u from fun q u hu=>by
         rw [Nat.zero_add];refine V4 q u ?_
         rw [HE.out,List.map_append,List.getElem?_append_left (List.getElem?_eq_some_iff.1 hu).1];exact hu)
        have Gn:=I (show ∀q u,((([]:List Nat)).map (fun j:Nat=>Value.int .i64 (j:Int)))[q]? = some u→wn.cell? ⟨g,jj+q,none⟩ = some u from fun q u hu=>by
         refine V4 (jj+q) u ?_
         rw [HE.out,List.map_append,List.getElem?_append_right B7,List.length_map,HJ.out,Nat.add_sub_cancel_left];exact hu)
        have cC:jj+(([]:List Nat)).length = is.length:=(by have e1:=congrArg List.length HE.out;have e3:=HJ.out;rw [List.length_append] at e1;omega);have bz:is.length - jj = (([]:List Nat)).length:=O;have mR:=I bz;have ov:jj≤is.length:=O;have oM:jj≤aM:=O;have kb:=I bE;have yn:is.length≤1048576:=O;clear RJ V4 cC bE bz;have de:∃A0:Addr,(if aM = jj then some (⟨g,0,none⟩:Addr) else some ⟨g,jj,none⟩) = some A0∧Hid (A0.block = g∧∀q u,((([]:List Nat)).map (fun j:Nat=>Value.int .i64 (j:Int)))[q]? = some u→∀w7:World,w7.cell? (A0.add q) = some u):=by exact L0
        obtain ⟨A0,hA0,asg⟩:=de
        go_wp2_with (first
         | (at_builtin
            refine xW EL Z _ _ Z (wn.alloc (.cells #[] 3)) wn.heap.size _ 0 [] (D9 wn 3 1 wn.heap.size rfl) Z ⟨g,0,none⟩ jj aM (s1.map (fun j:Nat=>Value.int .i64 (j:Int))) Z xp (fun q u hu=>by rw [Addr.add_lit];exact (World.cell?_of_block (heap_alloc_old _ _ eT)).trans (eJ.out q u hu)) (fun u hu=>by obtain ⟨z0,_,rfl⟩:=List.mem_map.1 hu;rfl) O O S' ?_;intro v5 w5 bi cD fu;rw [List.nil_append] at bi
            have bt:Below wn.heap.size wn w5:=Below.grown (ak (aj _) _) cD S' (fun q hq=>by simp [Value.ownBlock] at hq;omega))
         | (at_builtin
            refine xW EL Z _ _ Z (w5.alloc (.cells #[.int .i64 (k:Int)] 3)) wn.heap.size v5 _ _ (mG bi (ak (aj _) _)) Z ⟨w5.heap.size,0,none⟩ 1 1 [.int .i64 (k:Int)] Z Z (DI w5 3 [.int .i64 (k:Int)] w5.heap.size rfl) (fun u hu=>by rw [List.mem_singleton.1 hu];rfl) O O PB ?_;intro v7 w7 nK Ua lP;rw [show 0+jj+1 = jj+1 by omega] at nK;obtain ⟨g9,p9,hv7,hgb9,hgp9,hgl9⟩:=wW nK O;subst hv7
            have bN:Below wn.heap.size wn w7:=Below.grown (ak bt _) Ua PB (fun q hq=>(bi.lt q hq).1))
         | (at_builtin
            refine xW EL Z _ _ Z w7 wn.heap.size _ _ _ nK Z A0 0 (aM - jj) ((([]:List Nat)).map (fun j:Nat=>Value.int .i64 (j:Int))) Z Z (fun q u hu=>asg.out.2 q u hu _) (fun u hu=>by obtain ⟨z0,_,rfl⟩:=List.mem_map.1 hu;rfl) O O lz ?_;intro v8 w8 Le dg li;rw [show jj+1+0 = is.length+1 by omega] at Le;obtain ⟨g8,p8,hv8,aJs,aJt,aJu⟩:=wW Le O;subst hv8
            have kn:Below wn.heap.size wn w8:=Below.grown bN dg bN.size (fun q hq=>(nK.lt q hq).1)))
        have Nr:Below wo.heap.size wo w8:=ah kb.out kn;refine ⟨⟨k+1,s1++k :: (([]:List Nat)),g8,p8,O,by rw [D1.out];omega,N',by rw [D1.out],I (fun z hz=>?_),I ?_,?_,?_,ah fi.out Nr⟩,by simp [intOf];omega⟩
        ·exact Jb
        ·exact J0
        ·exact LX
        ·exact (Nr.cell (p:=⟨w.heap.size,1,none⟩) Mm).trans UV.out
      | cons z s2 =>
        have fX:jj < is.length:=(by have e1:=congrArg List.length HE.out;have e3:=HJ.out;rw [List.length_append,List.length_cons] at e1;omega);have pA:decide ((jj:Int) < (is.length:Int)) = true:=(by simp;omega);have hzc:wr.cell? ⟨g,jj,none⟩ = some (.int .i64 (z:Int)):=MC.out _ _ _ (lM.out jj _ RV) hgo;have qC:z < x.J.length:=HIS.out z AD;obtain ⟨r,hrk,hro,hrn,cJ⟩:=HPC.out z qC;have UX:wo.cell? ⟨b,o+z * 9,none⟩ = some (.string r.name):=r' fi.out (cJ 0 _ rfl) hbs;have qr1:wo.cell? ⟨b,o+z * 9+1,none⟩ = some (.slice r.la r.ln r.lc):=r' fi.out (cJ 1 _ rfl) hbs;have qr2:wo.cell? ⟨b,o+z * 9+2,none⟩ = some (.int .i64 r.aw):=r' fi.out (cJ 2 _ rfl) hbs;have qr3:wo.cell? ⟨b,o+z * 9+3,none⟩ = some (.int .i64 r.mem):=r' fi.out (cJ 3 _ rfl) hbs;have qr4:wo.cell? ⟨b,o+z * 9+4,none⟩ = some (.int .i64 r.av):=r' fi.out (cJ 4 _ rfl) hbs;have qr5:wo.cell? ⟨b,o+z * 9+5,none⟩ = some (.slice r.na r.nn r.nc):=r' fi.out (cJ 5 _ rfl) hbs;have qr6:wo.cell? ⟨b,o+z * 9+6,none⟩ = some (.slice r.ta r.tn r.tc):=r' fi.out (cJ 6 _ rfl) hbs;have qr7:wo.cell? ⟨b,o+z * 9+7,none⟩ = some (.string r.on):=r' fi.out (cJ 7 _ rfl) hbs;have qr8:wo.cell? ⟨b,o+z * 9+8,none⟩ = some (.int .i64 r.seq):=r' fi.out (cJ 8 _ rfl) hbs;replace UX:=MC.out _ _ _ UX ff;replace qr1:=MC.out _ _ _ qr1 ff;replace qr2:=MC.out _ _ _ qr2 ff;replace qr3:=MC.out _ _ _ qr3 ff;replace qr4:=MC.out _ _ _ qr4 ff;replace qr5:=MC.out _ _ _ qr5 ff;replace qr6:=MC.out _ _ _ qr6 ff;replace qr7:=MC.out _ _ _ qr7 ff;replace qr8:=MC.out _ _ _ qr8 ff;have HRK:=I (show oV x.J z = gm r by rw [Qu qC,hrk]);clear cJ hrk hro;cases hL:kS jl (gm y) (gm r) with
        | false =>
          have HL:=I hL;clear hL;go_wp2_with fail
          refine aF wr U' U' (aj _) ?_
          repeat ((first | refine aG Z ?_ | refine aH _ Z IS ?_);simp only [Act.put,pz])
          refine aN ?_;intro wn hn;replace hn:=hn.out;go_wp2;refine ⟨⟨s1++[z],s2,jj+1,I AD,N',I Wz,I (fun z' hz=>?_),ah bS hn⟩,by simp [intOf];omega⟩;rcases List.mem_append.1 hz with hz | hz
          ·exact HN.out z' hz
          ·rw [List.mem_singleton.1 hz,HRK.out];exact HL.out
        | true =>
          have HL:=I hL;clear hL;have D1:=I (show (s1++k :: z :: s2).length = is.length+1 by have e1:=congrArg List.length HE.out;rw [List.length_append,List.length_cons] at e1;rw [List.length_append,List.length_cons,List.length_cons];omega);have Xi:=I (show (z :: s2).map (oV x.J) = []∨∃z' s',(z :: s2).map (oV x.J) = z' :: s'∧kS jl (gm y) z' = true from .inr ⟨_,_,rfl,by rw [HRK.out];exact HL.out⟩);go_wp2_with fail
          refine aF wr U' U' (aj _) ?_
          repeat ((first | refine aG Z ?_ | refine aH _ Z IS ?_);simp only [Act.put,pz])
          refine aN ?_;intro wn hn;replace hn:=hn.out;have bE:Below wo.heap.size wo wn:=ah bS hn;have RJ:=mG im.out bE;obtain ⟨_,eT,apy,V4⟩:=IE RJ
          have eJ:=I (show ∀q u,(s1.map (fun j:Nat=>Value.int .i64 (j:Int)))[q]? = some u→wn.cell? ⟨g,0+q,none⟩ = some u from fun q u hu=>by
           rw [Nat.zero_add];refine V4 q u ?_
           rw [HE.out,List.map_append,List.getElem?_append_left (List.getElem?_eq_some_iff.1 hu).1];exact hu)
          have Gn:=I (show ∀q u,((z :: s2).map (fun j:Nat=>Value.int .i64 (j:Int)))[q]? = some u→wn.cell? ⟨g,jj+q,none⟩ = some u from fun q u hu=>by
           refine V4 (jj+q) u ?_
           rw [HE.out,List.map_append,List.getElem?_append_right B7,List.length_map,HJ.out,Nat.add_sub_cancel_left];exact hu)
          have cC:jj+(z :: s2).length = is.length:=(by have e1:=congrArg List.length HE.out;have e3:=HJ.out;rw [List.length_append] at e1;omega);have bz:is.length - jj = (z :: s2).length:=O;have mR:=I bz;have ov:jj≤is.length:=O;have oM:jj≤aM:=O;have kb:=I bE;have yn:is.length≤1048576:=O;clear RJ V4 cC bE bz
          go_wp2_with (first
           | (at_builtin
              refine xW EL Z _ _ Z (wn.alloc (.cells #[] 3)) wn.heap.size _ 0 [] (D9 wn 3 1 wn.heap.size rfl) Z ⟨g,0,none⟩ jj aM (s1.map (fun j:Nat=>Value.int .i64 (j:Int))) Z xp (fun q u hu=>by rw [Addr.add_lit];exact (World.cell?_of_block (heap_alloc_old _ _ eT)).trans (eJ.out q u hu)) (fun u hu=>by obtain ⟨z0,_,rfl⟩:=List.mem_map.1 hu;rfl) O O S' ?_;intro v5 w5 bi cD fu;rw [List.nil_append] at bi
              have bt:Below wn.heap.size wn w5:=Below.grown (ak (aj _) _) cD S' (fun q hq=>by simp [Value.ownBlock] at hq;omega))
           | (at_builtin
              refine xW EL Z _ _ Z (w5.alloc (.cells #[.int .i64 (k:Int)] 3)) wn.heap.size v5 _ _ (mG bi (ak (aj _) _)) Z ⟨w5.heap.size,0,none⟩ 1 1 [.int .i64 (k:Int)] Z Z (DI w5 3 [.int .i64 (k:Int)] w5.heap.size rfl) (fun u hu=>by rw [List.mem_singleton.1 hu];rfl) O O PB ?_;intro v7 w7 nK Ua lP;rw [show 0+jj+1 = jj+1 by omega] at nK;obtain ⟨g9,p9,hv7,hgb9,hgp9,hgl9⟩:=wW nK O;subst hv7
              have bN:Below wn.heap.size wn w7:=Below.grown (ak bt _) Ua PB (fun q hq=>(bi.lt q hq).1))
           | (at_builtin
              refine xW EL Z _ _ Z w7 wn.heap.size _ _ _ nK Z ⟨g,jj,none⟩ (is.length - jj) (aM - jj) ((z :: s2).map (fun j:Nat=>Value.int .i64 (j:Int))) Z PC (fun q u hu=>by rw [Addr.add_lit];exact (bN.cell (p:=⟨g,jj+q,none⟩) eT).trans (Gn.out q u hu)) (fun u hu=>by obtain ⟨z0,_,rfl⟩:=List.mem_map.1 hu;rfl) O O lz ?_;intro v8 w8 Le dg li;rw [show jj+1+(is.length - jj) = is.length+1 by omega] at Le;obtain ⟨g8,p8,hv8,aJs,aJt,aJu⟩:=wW Le O;subst hv8
              have kn:Below wn.heap.size wn w8:=Below.grown bN dg bN.size (fun q hq=>(nK.lt q hq).1)))
          have Nr:Below wo.heap.size wo w8:=ah kb.out kn;refine ⟨⟨k+1,s1++k :: (z :: s2),g8,p8,O,by rw [D1.out];omega,N',by rw [D1.out],I (fun z hz=>?_),I ?_,?_,?_,ah fi.out Nr⟩,by simp [intOf];omega⟩
          ·exact Jb
          ·exact J0
          ·exact LX
          ·exact (Nr.cell (p:=⟨w.heap.size,1,none⟩) Mm).trans UV.out
  ·have bz:k = x.J.length:=O;subst bz;have Da:=HMAP.out;rw [List.take_length] at Da;have Nn:(is.map fun z=>(oV x.J z).1) = GI x.J:=by
    unfold GI;rw [← Da,List.map_map];rfl
   have uu:=I Nn;clear Da Nn HMAP;obtain ⟨wo,hwo⟩:∃wo,wo = wr:=⟨_,rfl⟩;subst hwo;obtain ⟨_,hgo,hgc,ahU⟩:=IE bA;have lM:=I ahU;clear ahU bA;have yn:is.length≤1048576:=O;go_wp2_with fail
   go_loopw [7,8] (fun v i wr=>∃j:Nat,j≤is.length∧i = .int .i64 (j:Int)∧wr.ownsRow wo.heap.size 9 1 v j (((is.take j).map fun z=>(oV x.J z).1).map Value.string)∧Below wo.heap.size wo wr) (fun _ i _=>is.length - (intOf i).toNat)
   case atStart=>exact ⟨0,Nat.zero_le _,rfl,D9 wo 9 1 wo.heap.size rfl,ak (aj _) _⟩
   case round =>
    obtain ⟨j,hj,rfl,bA,dd⟩:=hrel;by_cases wD:j < is.length
    ·obtain ⟨z,hz⟩:∃z,is[j] = z:=⟨_,rfl⟩;have qC:z < x.J.length:=HIS.out z (by rw [← hz];exact List.getElem_mem ..);have hzc:wo.cell? ⟨g,j,none⟩ = some (.int .i64 (z:Int)):=lM.out j _ (by rw [List.getElem?_map,List.getElem?_eq_getElem wD,hz];rfl);obtain ⟨b,o,rfl,hbs,hpc⟩:=US dM O;obtain ⟨r,hrk,hro,hrn,cJ⟩:=hpc z qC;have UX:wo.cell? ⟨b,o+z * 9,none⟩ = some (.string r.name):=r' az (cJ 0 _ rfl) hbs;have ff:b < wo.heap.size:=Nat.lt_of_lt_of_le hbs az.size;have lZ:(is.take (j+1)).map (fun z=>(oV x.J z).1) = (is.take j).map (fun z=>(oV x.J z).1)++[r.name]:=by
      rw [List.take_succ_eq_append_getElem wD,hz,List.map_append,List.map_cons,List.map_nil,Qu qC,← hrk];rfl
     have IP:=I lZ;clear lZ cJ hpc hrk hro hz;go_wp2_with fail
     refine zU wo 14 U' U' dd ?_;have bc:=aA dd;refine aX 0 _ Z U' H' bc W' ?_;try simp only [Act.put,pz]
     refine aX 1 _ Z U' H' bc W' ?_;try simp only [Act.put,pz]
     refine aX 2 _ Z U' H' bc W' ?_;try simp only [Act.put,pz]
     refine aX 3 _ Z U' H' bc W' ?_;try simp only [Act.put,pz]
     refine aX 4 _ Z U' H' bc W' ?_;try simp only [Act.put,pz]
     refine aX 5 _ Z U' H' bc W' ?_;try simp only [Act.put,pz]
     refine aX 6 _ Z U' H' bc W' ?_;try simp only [Act.put,pz]
     refine aX 7 _ Z U' H' bc W' ?_;try simp only [Act.put,pz]
     refine aX 8 _ Z U' H' bc W' ?_;try simp only [Act.put,pz]
     refine aX 9 _ Z U' H' bc W' ?_;try simp only [Act.put,pz]
     refine aX 10 _ Z U' H' bc W' ?_;try simp only [Act.put,pz]
     refine bP 11 Z U' Z (fun K hK=>?_);go_simp;refine hK _ _ (ak bc (.cells #[.string r.name] 9)) ?_;try simp only [Act.put,pz]
     clear hK K;refine bP 12 Z U' Z (fun K hK=>?_);refine qQ ajn _ _ Z (wr.drew.alloc (.cells #[.string r.name] 9)) wo.heap.size _ j _ (mG bA (ak (aA (aj _)) _)) Z ⟨wr.heap.size,0,none⟩ 1 1 [.string r.name] Z Z (DI wr.drew 9 [.string r.name] wr.heap.size rfl) (fun u hu=>by rw [List.mem_singleton.1 hu];rfl) O O (by have:=dd.size;simp;omega) ?_;intro v5 w5 bi cD fu;have bt:Below wo.heap.size wo w5:=Below.grown (ak bc _) cD (by have:=dd.size;simp;omega) (fun q hq=>(bA.lt q hq).1);refine hK _ _ bt ?_;try simp only [Act.put,pz]
     clear hK K;refine bP 13 Z U' Z (fun K hK=>?_);go_simp;refine hK _ _ bt ?_;try simp only [Act.put,pz]
     clear hK K;refine nR U' ?_;go_wp2;exact ⟨⟨j+1,O,N',by rw [IP.out,List.map_append];exact bi,bt⟩,by simp [intOf];omega⟩
    ·have jt:j = is.length:=O;subst jt;rw [List.take_length,uu.out] at bA
     obtain ⟨A3,c3,G3,iA,hO3⟩:=UM bA (by rw [← uu.out,List.length_map]) (B':=w.heap.size) az.size (fun y hy=>by
      rw [← uu.out] at hy;obtain ⟨z,hz,rfl⟩:=List.mem_map.1 hy;have qC:=HIS.out z hz;obtain ⟨_,_,_,_,hpc⟩:=US dM O;obtain ⟨r,hrk,_,hrn,_⟩:=hpc z qC
      rw [Qu qC,← hrk];exact hrn)
     have Nq:=I iA;have fG:=I hO3;clear iA hO3 bA;go_wp2;go_ret
     exact ⟨A3,c3,G3,congrArg _ Nq.out,fG.out,az.trans (dd.mono az.size)⟩
end Go.Proofs.YtjahcnjmjahbaaaGreat
