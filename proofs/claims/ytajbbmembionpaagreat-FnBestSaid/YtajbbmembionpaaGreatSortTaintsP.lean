/- SortTaints in plain Lean. No condition. -/
import Derived.Test.YtajbbmembionpaaGreatCpP
import Derived.Test.YtajbbmembionpaaGreatTaintsOk
import Derived.Test.YtajbbmembionpaaGreatStabIS
import Derived.Shelf.Spec.SlicesInsert
import Derived.Lib.AppendZerosOnto
import Derived.Shelf.GgSortFunc.RowK
namespace Go.Proofs.YtajbbmembionpaaGreat
open Go.ChangeShapes Go.WideShapes Go.ChangeAt Go.RowKit
set_option linter.unusedVariables false
set_option linter.unusedSimpArgs false
set_option maxHeartbeats 8000000
set_option maxRecDepth 100000
def Fq (xs:List iU):List iU × Bool:=if xs.length≤40∧La (ep qo [] xs) = true then (ep qo [] xs,true) else (xs,false)
theorem ayj {xs:List iU} (h:¬xs.length≤40):Fq xs = (xs,false):=if_neg fun hh=>h hh.1
theorem ayT {xs:List iU} (h:xs.length≤40) (h2:La (ep qo [] xs) = true):Fq xs = (ep qo [] xs,true):=if_pos ⟨h,h2⟩
theorem az7 {xs:List iU} (h2:La (ep qo [] xs) = false):Fq xs = (xs,false):=if_neg fun hh=>by rw [h2] at hh;cases hh.2
theorem Vk {xs:List iU} {z:iU} (h:z∈ep qo [] xs):z∈xs:=by
 rcases (DH Pj z xs []).1 h with h | h
 ·cases h
 ·exact h
theorem azM (xs:List iU):kL iU.wt (Fq xs).1≤kL iU.wt xs:=by
 have h:=DJ iU.wt qo xs [];have hl:=xL qo xs [];unfold Fq kL;split
 ·dsimp only;exact zE
 ·exact Nat.le_refl _
def kA (xs:List bH):List bH × Bool:=if xs.length≤40∧Ya (ep vJ [] xs) = true then (ep vJ [] xs,true) else (xs,false)
theorem az8 {xs:List bH} (h:¬xs.length≤40):kA xs = (xs,false):=if_neg fun hh=>h hh.1
theorem aAx {xs:List bH} (h:xs.length≤40) (h2:Ya (ep vJ [] xs) = true):kA xs = (ep vJ [] xs,true):=if_pos ⟨h,h2⟩
theorem aBF {xs:List bH} (h2:Ya (ep vJ [] xs) = false):kA xs = (xs,false):=if_neg fun hh=>by rw [h2] at hh;cases hh.2
theorem Wo {xs:List bH} {z:bH} (h:z∈ep vJ [] xs):z∈xs:=by
 rcases (DH Pk z xs []).1 h with h | h
 ·cases h
 ·exact h
theorem aBz (xs:List bH):kL bH.wt (kA xs).1≤kL bH.wt xs:=by
 have h:=DJ bH.wt vJ xs [];have hl:=xL vJ xs [];unfold kA kL;split
 ·dsimp only;exact zE
 ·exact Nat.le_refl _
def fN (x y:ao):Int:=Lib.compareBytes x.key.data.toList y.key.data.toList
def BG (xs:List ao):List ao × Bool:=if sD (aL (kS fN) [] xs) = true then (aL (kS fN) [] xs,true) else (xs,false)
theorem ayQ {xs:List ao} (h:sD (aL (kS fN) [] xs) = true):BG xs = (aL (kS fN) [] xs,true):=if_pos h
theorem Vc {xs:List ao} (h:sD (aL (kS fN) [] xs) = false):BG xs = (xs,false):=if_neg (by rw [h];simp)
theorem Ve {lt:ao→ao→Bool} {z:ao} : ∀(ys acc:List ao),z∈aL lt acc ys→z∈acc∨z∈ys
 | [],acc,h=>.inl h
 | y :: ys,acc,h=>by
   rw [aL] at h;rcases Ve ys _ h with h | h
   ·exact GJ
   ·exact .inr (List.mem_cons_of_mem _ h)
theorem Vf {xs:List ao} {z:ao} (h:z∈aL (kS fN) [] xs):z∈xs:=by
 rcases Ve xs [] h with h | h
 ·cases h
 ·exact h
theorem Vg (xs:List ao):(aL (kS fN) [] xs).length = xs.length:=by rw [rD];simp
theorem Vh {lt:ao→ao→Bool} (f:ao→Nat) (y:ao):∀r:List ao,((OM lt y r).map f).sum = f y+(r.map f).sum
 | []=>by simp [OM]
 | x :: r=>by
   have:=Vh (lt:=lt) f y r;unfold OM;split <;> simp only [List.map_cons,List.sum_cons] <;> omega
theorem Vi {lt:ao→ao→Bool} (f:ao→Nat):∀xs acc:List ao,((aL lt acc xs).map f).sum = (acc.map f).sum+(xs.map f).sum
 | [],_=>by simp [aL]
 | x :: xs,acc=>by
   have h1:=Vi (lt:=lt) f xs (OM lt x acc);have h2:=Vh (lt:=lt) f x acc;rw [aL,h1,h2];exact qV
theorem Vj (xs:List ao):kL ao.wt (BG xs).1 = kL ao.wt xs:=by
 have h:=Vi (lt:=kS fN) ao.wt xs [];have hl:=Vg xs;unfold BG kL;split
 ·dsimp only;simp only [List.map_nil,List.sum_nil] at h;omega
 ·rfl
def lP (r:Eb):Bu:=(r.name,r.ar,r.seq)
theorem anC:(Tryz.prog.info? 9).map (fun i=>(i.zero,i.size,i.bytes)) = some (some (.string ⟨#[]⟩),1,16):=by kernel_rfl
theorem ajn:DL Tryz.prog 40 9 (.string ⟨#[]⟩) 1 16:=⟨Tryz.underlying40,anC,rfl,J⟩
theorem YK (w:World):∀ys:List ByteArray,(∀y∈ys,y.size≤maxLen)→jo w ys (ys.map Value.string) []
 | [],_=>⟨rfl,rfl⟩
 | y :: ys,h=>⟨[.string y],ys.map Value.string,[],[],rfl,rfl,⟨rfl,rfl,h y (List.mem_cons_self ..)⟩,YK w ys fun z hz=>h z (List.mem_cons_of_mem _ hz)⟩
theorem adz {w:World} {B e B':Nat} {v:Value} {xs:List ByteArray} {n:Nat} (h:w.ownsRow B e 1 v n (xs.map Value.string)) (hn:n = xs.length) (hB:B'≤B) (hz:∀y∈xs,y.size≤maxLen) :
 ∃A c G,v = .slice A xs.length c∧am w B' xs [.slice A xs.length c] G:=by
 subst hn;exact am.oJ (e:=e) (ds:=xs.map Value.string) (F:=[]) (vP h hB) ⟨YK w _ hz,List.nodup_nil,(fun b hb=>by cases hb),(fun b hb=>by cases hb)⟩ (fun g _ hm=>by cases hm)
theorem asU:(Tryz.prog.info? 3).map (fun i=>(i.zero,i.size,i.bytes)) = some (some (.int .i64 0),1,8):=by kernel_rfl
theorem DA:DL Tryz.prog 42 3 (.int .i64 0) 1 8:=⟨Tryz.underlying42,asU,rfl,J⟩
theorem asV {a b:Bool} (h:a = b):Ending.returned (.bool a) = .returned (.bool b):=by rw [h]
theorem ajp (x y:Eb) (w:World) :
 Calls Tryz.prog 160 #[.agg #[.string x.name,.slice x.la x.ln x.lc,.int .i64 x.av,.int .i64 x.mem,.int .i64 x.ar,.slice x.na x.nn x.nc,.slice x.ta x.tn x.tc,.string x.on,.int .i64 x.seq],.agg #[.string y.name,.slice y.la y.ln y.lc,.int .i64 y.av,.int .i64 y.mem,.int .i64 y.ar,.slice y.na y.nn y.nc,.slice y.ta y.tn y.tc,.string y.on,.int .i64 y.seq]] w fun e w'=>e = .returned (.bool (kS pT (lP x) (lP y)))∧Below w.heap.size w w':=by
 have aq:=alD (lP x) (lP y);have e1:(lP x).2.1 = x.ar:=rfl;have e2:(lP y).2.1 = y.ar:=rfl;have e3:(lP x).2.2 = x.seq:=rfl;have e4:(lP y).2.2 = y.seq:=rfl;rw [e1,e2,e3,e4] at aq;clear e1 e2 e3 e4;generalize kS pT (lP x) (lP y) = L at *;cases h1:decide (y.ar < x.ar) <;> cases h2:(x.ar == y.ar) <;> cases h3:decide (x.seq < y.seq)
 all_goals
  have HL:=I aq;have H1:=I h1;have H2:=I h2;have H3:=I h3;clear aq;go_enter Tryz.func160,Tryz.ntmps160;go_wp2;go_ret
  refine ⟨asV ?_,ak (ak (aj _) _) _⟩;have a1:=H1.out;have a2:=H2.out;have a3:=H3.out;have a4:=HL.out;simp at a1 a2 a3;cases L
  ·simp at a4 ⊢;try omega
  ·simp at a4 ⊢;try omega
def ph (ps:List af) (i:Nat):Bu:=match ps[i]? with | some p=>Kh p | none=>(⟨#[]⟩,0,0)
theorem Ny {ps:List af} {i:Nat} (h:i < ps.length):ph ps i = Kh ps[i]:=by unfold ph;rw [List.getElem?_eq_getElem h]
theorem Ro {w:World} {ps:List af} {A:Option Addr} {c:Nat} {F:List Nat} (h:Sl w ps A c F) (bN:0 < ps.length):∃b o,A = some ⟨b,o,none⟩∧b < w.heap.size ∧
 ∀z (hz:z < ps.length),∃r:Eb,lP r = Kh ps[z]∧r.on = ps[z].on∧r.name.size≤maxLen∧∀j u,(tH r)[j]? = some u→w.cell? ⟨b,o+z * 9+j,none⟩ = some u:=by
 obtain ⟨b,o,_,_,hA,_,bc,_⟩:=Sl.get (α:=af) h bN;subst hA;refine ⟨b,o,rfl,bc,fun z hz=>?_⟩;obtain ⟨b',o',ck,Fk,hA,o9,_,hr,bv,hc⟩:=Sl.get (α:=af) h hz;simp only [Option.some.injEq,Addr.mk.injEq,and_true] at hA;obtain ⟨rfl,rfl⟩:=hA;obtain ⟨c1,c2,F1,F2,rfl,rfl,QS,_,_,_,_,rfl,rfl,⟨rfl,rfl,ie⟩,⟨rfl,rfl,hseq⟩⟩:=hr;obtain ⟨Al,cl,Fl,An,cn,Fn,At,ct,Ft,aw,su,hpn,_⟩:=dL QS;subst aw;refine ⟨⟨ps[z].aS.name,Al,ps[z].aS.labels.length,cl,ps[z].aS.av,ps[z].aS.mem,ps[z].aS.ar,An,ps[z].aS.ag.length,cn,At,ps[z].aS.ae.length,ct,ps[z].on,ps[z].seq⟩,rfl,rfl,hpn,fun j u hu=>?_⟩;have:=hc j u hu;rw [show o+(z * ba.size af+j) = o+z * 9+j from by show o+(z * 9+j) = _;omega] at this;exact this
def f' {α:Type} (i:Nat) (x:α) (xs:List α):List α:=xs.take i++x :: xs.drop i
theorem yK {α:Type} (i:Nat) (x:α) (xs:List α):(f' i x xs).length = xs.length+1:=by simp [f'];omega
theorem aY.ins {α:Type} [ba α] {w:World} {B:Nat} {xs:List α} {x:α} {ds cs:List Value} {F G:List Nat} (h:aY w B xs ds F) (hx:am w B x cs G) (hd:∀y∈F,y∉G) (i:Nat) (hi:i≤xs.length) :
 ∃F',aY w B (f' i x xs) (ds.take (i * ba.size α)++(cs++ds.drop (i * ba.size α))) F'∧(∀y∈F',y∈F∨y∈G):=by
 obtain ⟨hr,hn,hb,hp⟩:=h;rw [← List.take_append_drop i xs] at hr;obtain ⟨d1,d2,F1,F2,rfl,rfl,h1,h2⟩:=jo.fX hr;have hl:d1.length = i * ba.size α:=by rw [h1.len,List.length_take,Nat.min_eq_left hi]
 rw [← hl,List.take_left,List.drop_left];have Pt:=List.nodup_append.1 hn;have bv:∀y∈F1++(G++F2),y∈F1++F2∨y∈G:=fun y hy=>by
  simp only [List.mem_append] at hy ⊢;rcases hy with hy | hy | hy <;> simp [hy]
 refine ⟨F1++(G++F2),⟨h1.append ⟨cs,d2,G,F2,rfl,rfl,hx.rd,h2⟩,?_,fun y hy=>?_,fun y hy=>?_⟩,bv⟩
 ·rw [List.nodup_append,List.nodup_append];refine ⟨Pt.1,⟨hx.nodup,Pt.2.1,fun a ha b ei e=>hd b (List.mem_append_right _ ei) (e ▸ ha)⟩,fun a ha b ei e=>?_⟩;rcases List.mem_append.1 ei with ei | ei
  ·exact hd a (List.mem_append_left _ ha) (e ▸ ei)
  ·exact Pt.2.2 a ha b ei e
 ·rcases bv y hy with hy | hy
  ·exact hb y hy
  ·exact hx.base y hy
 ·rcases bv y hy with hy | hy
  ·exact hp y hy
  ·exact hx.plain y hy
theorem am.L9 {α:Type} [ba α] {w:World} {B:Nat} {xs:List α} {ds:List Value} {F:List Nat} {e:TypeId} {v:Value} (h0:w.ownsRow B e (ba.size α) v xs.length ds) (h:aY w B xs ds F) (bN:∀g,v.ownBlock = some g→g∉F):∃A c G,v = .slice A xs.length c∧am w B xs [.slice A xs.length c] G∧∀y∈G,y∈F∨v.ownBlock = some y:=by
 exact E0
theorem aEj:(Tryz.prog.info? 47).map (fun i=>(i.zero,i.size,i.bytes)) = some (some (.agg #[.string ⟨#[]⟩,.slice none 0 0,.int .i64 0,.int .i64 0,.int .i64 0,.slice none 0 0]),6,88):=by kernel_rfl
theorem nG:DL Tryz.prog 24 47 (.agg #[.string ⟨#[]⟩,.slice none 0 0,.int .i64 0,.int .i64 0,.int .i64 0,.slice none 0 0]) 6 88:=⟨Tryz.underlying24,aEj,rfl,J⟩
theorem aCp:(Tryz.prog.info? 53).map (fun i=>(i.zero,i.size,i.bytes)) = some (some (.agg #[.string ⟨#[]⟩,.slice none 0 0,.int .i64 0,.int .i64 0,.int .i64 0,.slice none 0 0,.slice none 0 0,.string ⟨#[]⟩,.int .i64 0]),9,136):=by kernel_rfl
theorem nF:DL Tryz.prog 25 53 (.agg #[.string ⟨#[]⟩,.slice none 0 0,.int .i64 0,.int .i64 0,.int .i64 0,.slice none 0 0,.slice none 0 0,.string ⟨#[]⟩,.int .i64 0]) 9 136:=⟨Tryz.underlying25,aCp,rfl,J⟩
def ib (x:ao):List Value:=[.string x.key,.string x.value]
def gN (x:iU):List Value:=[.string x.key,.string x.value,.int .i64 x.effect]
def gC (x:bH):List Value:=[.string x.key,.bool x.equal,.string x.value,.int .i64 x.effect]
section
variable {β:Type} {row:β→List Value} {S:Nat}
theorem tJ (hS:∀x,(row x).length = S):∀(D:List β) (k:Nat) (x:β),D[k]? = some x→∀(j:Nat) (u:Value),(row x)[j]? = some u→(D.flatMap row)[k * S+j]? = some u
 | [],_,_,h,_,_,_=>by simp at h
 | r :: rs,0,x,h,j,u,hj=>by
   simp at h;subst h;rw [List.flatMap_cons,Nat.zero_mul,Nat.zero_add,List.getElem?_append_left (List.getElem?_eq_some_iff.1 hj).1];exact hj
 | r :: rs,k+1,x,h,j,u,hj=>by
   rw [List.getElem?_cons_succ] at h;have hr:=hS r;have hk:(k+1) * S+j = k * S+j+S:=(by rw [Nat.succ_mul];omega);rw [List.flatMap_cons,List.getElem?_append_right J,hr,show (k+1) * S+j - S = k * S+j by omega];exact tJ hS rs k x h j u hj
theorem lE (hS:∀x,(row x).length = S):∀D:List β,(D.flatMap row).length = D.length * S
 | []=>by simp
 | r :: rs=>by rw [List.flatMap_cons,List.length_append,hS,lE hS rs,List.length_cons,Nat.succ_mul];omega
theorem nP (h1:∀x,∀u∈row x,u.oneCell' = true) (D:List β):∀u∈D.flatMap row,u.oneCell' = true:=fun u hu=>by
 obtain ⟨x,_,hx⟩:=List.mem_flatMap.1 hu;exact h1 x u hx
theorem PL [ba β] {w:World} {B e g cap:Nat} (hd:ba.size β = S) (D:List β) (h:w.ownsRow B e S (.slice (some ⟨g,0,none⟩) D.length cap) D.length (D.flatMap row)) (hr:∀x∈D,rd w x (row x) []):∃A c G,Value.slice (some ⟨g,0,none⟩) D.length cap = .slice A D.length c∧am w B D [.slice A D.length c] G:=by
 subst hd;have dq:∀D:List β,(∀x∈D,rd w x (row x) [])→jo w D (D.flatMap row) []:=fun D=>by
  induction D with
  | nil=>intro _;exact ⟨rfl,rfl⟩
  | cons x D ih=>intro hD;exact ⟨row x,D.flatMap row,[],[],rfl,rfl,hD x (List.mem_cons_self ..),ih fun y hy=>hD y (List.mem_cons_of_mem _ hy)⟩
 exact G9
end
theorem we (x:ao):∀u∈ib x,u.oneCell' = true:=by intro u hu;simp only [ib,List.mem_cons,List.not_mem_nil,or_false] at hu;rcases hu with rfl | rfl <;> rfl
theorem vZ (x:iU):∀u∈gN x,u.oneCell' = true:=by intro u hu;simp only [gN,List.mem_cons,List.not_mem_nil,or_false] at hu;rcases hu with rfl | rfl | rfl <;> rfl
theorem vX (x:bH):∀u∈gC x,u.oneCell' = true:=by intro u hu;simp only [gC,List.mem_cons,List.not_mem_nil,or_false] at hu;rcases hu with rfl | rfl | rfl | rfl <;> rfl
theorem aDt:(Tryz.prog.info? 67).map (fun i=>(i.zero,i.size,i.bytes)) = some (some (.agg #[.string ⟨#[]⟩,.string ⟨#[]⟩]),2,32):=by kernel_rfl
theorem k9:DL Tryz.prog 31 67 (.agg #[.string ⟨#[]⟩,.string ⟨#[]⟩]) 2 32:=⟨Tryz.underlying31,aDt,rfl,J⟩
theorem aBD {w:World} {xs:List ao} (h:∀x∈xs,rd w x (ib x) []) {x:ao} (hx:x∈xs) (w':World):rd w' x (ib x) []:=by
 obtain ⟨h0,h1,h2,h3⟩:=vO (h x hx);exact ID w' x h2 h3
theorem AF {y z:ao} (h:kS fN y z = false):(Op.bytesLess z.key.toList y.key.toList || z.key.toList == y.key.toList) = true∧(Op.bytesLess y.key.toList z.key.toList) = false:=by
 have h1:¬fN y z < 0:=by simpa [kS] using h
 have h2:fN z y = - fN y z:=Pf.gP _ _;have hh:Op.bytesLess y.key.toList z.key.toList = false:=by
  cases hb:Op.bytesLess y.key.toList z.key.toList with
  | false=>rfl
  | true =>rw [← Wx,ByteArray.toList_eq,ByteArray.toList_eq] at hb;exact absurd hb h1
 refine ⟨?_,hh⟩;by_cases h3:fN y z = 0
 ·have:=(J5 _ _).1 h3;rw [ByteArray.toList_eq,ByteArray.toList_eq,this];simp
 ·have h4:fN z y < 0:=by omega
  have:=(Wx _ _).1 h4;rw [ByteArray.toList_eq,ByteArray.toList_eq,this];rfl
theorem AG {y z:ao} (h:kS fN y z = true):(Op.bytesLess z.key.toList y.key.toList || z.key.toList == y.key.toList) = false:=by
 have h1:fN y z < 0:=by simpa [kS] using h
 have h2:fN z y = - fN y z:=Pf.gP _ _;rw [Bool.or_eq_false_iff];constructor
 ·cases hb:Op.bytesLess z.key.toList y.key.toList with
  | false=>rfl
  | true =>rw [← Wx,ByteArray.toList_eq,ByteArray.toList_eq] at hb;have:fN z y < 0:=hb;omega
 ·cases hb:(z.key.toList == y.key.toList) with
  | false=>rfl
  | true =>rw [beq_iff_eq,ByteArray.toList_eq,ByteArray.toList_eq] at hb;have:fN z y = 0:=(J5 _ _).2 hb;omega
theorem aBE {xs:List ao} (h:sD xs = true):xs.length≤6:=by
 unfold sD oc at h;exact uL
theorem VW (xs:List ao) (A:Option Addr) (c:Nat) (F:List Nat) (w:World) (h:Sl w xs A c F) (hl:(xs.length:Int)≤1048576) (cR:∀l∈xs,(l.key.size:Int)≤1048576∧(l.value.size:Int)≤1048576) :
 Calls Tryz.prog 36 #[.slice A xs.length c] w fun e w'=>∃A' c' G,e = .returned (.tuple #[.slice A' (BG xs).1.length c',.bool (BG xs).2])∧am w' w.heap.size (BG xs).1 [.slice A' (BG xs).1.length c'] G∧Below w.heap.size w w'∧((BG xs).2 = true→er w' w.heap.size 67 2 A' c'):=by
 have Eo:=I cR;clear cR
 have ru:=I (show ∀x∈xs,rd w x (ib x) [] from fun x hx=>by
  obtain ⟨k,hk,rfl⟩:=List.getElem_of_mem hx;obtain ⟨b,o,ck,Fk,_,_,_,hr,_,_⟩:=h.get hk;have h2:=vO hr;rw [h2.1,h2.2.1] at hr
  exact hr)
 go_enter Tryz.func36,Tryz.ntmps36
 go_wp2_with (
  at_builtin
  go_must (refine rW k9 O O _ _ O (w.alloc (.cells #[] 67)) w.heap.size _ 0 [] (D9 w 67 2 w.heap.size rfl) O xs A c F (h.ext (ak (aj _) _)) O J J S' ?_)
  intro v2 w2 ds G dq bv bd hg cQ;go_must (obtain ⟨A2,c2,gF⟩:=mY bd)
  go_must (subst gF)
  go_must (have ap:Below w.heap.size w w2:=lS (World.ownsRow_made (e:=67) (size:=2) w #[] 0 (Nat.le_refl _) (Nat.zero_le _) S') hg (ak (aj _) _) S'))
 all_goals
  simp only [Nat.zero_add,List.nil_append] at bd;try simp only [Nat.zero_add]
 ·have qN:¬xs.length≤6:=by omega
  have HR:=I (Vc (by cases hh:sD (aL (kS fN) [] xs) with
  | false=>rfl
  | true=>have:=aBE hh;rw [Vg] at this;omega))
  have qt:jo w2 xs ds G:=dq.frame (fun b hb=>hg.block b (dq.lt b hb) (fun e=>by have h1:=h.lt b (bv b hb);simp [Value.ownBlock] at e;omega)) hg.size;obtain ⟨A3,c3,G3,kX,hO3⟩:=am.of_flat (fun {w x cs F} hh=>(vO hh).2.1) bd qt;exact zg
 ·have qN:xs.length≤6:=by omega
  have mK:=I (show jo w2 xs ds G from dq.frame (fun b hb=>hg.block b (dq.lt b hb) (fun e=>by have h1:=h.lt b (bv b hb);simp [Value.ownBlock] at e;omega)) hg.size);have gm:=I bd;have lf:=I ap;have cM:Sl w2 xs A c F:=h.ext ap;clear bd dq hg cQ bv ap;go_wp2_with fail
  go_loopw [5,6] (fun v i wr=>∃k N g cap:Nat,k≤xs.length∧N≤k∧i = .int .i64 (k:Int)∧v = .slice (some ⟨g,0,none⟩) N cap∧Hid ((aL (kS fN) [] (xs.take k)).length = N)∧wr.ownsRow w2.heap.size 67 2 (.slice (some ⟨g,0,none⟩) N cap) N ((aL (kS fN) [] (xs.take k)).flatMap ib)∧Below w2.heap.size w2 wr) (fun _ i _=>xs.length - (intOf i).toNat)
  case atStart=>exact ⟨0,0,w2.heap.size,0,J,Nat.le_refl _,rfl,rfl,I rfl,D9 w2 67 2 w2.heap.size rfl,ak (aj _) _⟩
  case round =>
   obtain ⟨k,N,g,cap,hk,hNk,rfl,rfl,cT,bk,ax⟩:=hrel;by_cases aq:k < xs.length
   ·obtain ⟨wo,hwo⟩:∃wo,wo = wr:=⟨_,rfl⟩;subst hwo;obtain ⟨b,o,ck,Fk,hA,hbG,bc,aJe,_,hcells⟩:=Sl.get cM aq;subst hA;have rY:xs[k]∈xs:=List.getElem_mem ..;have fb:aL (kS fN) [] (xs.take (k+1)) = OM (kS fN) xs[k] (aL (kS fN) [] (xs.take k)):=(by rw [List.take_succ_eq_append_getElem aq,V3]);obtain ⟨y,hy⟩:∃y,xs[k] = y:=⟨_,rfl⟩;rw [hy] at aJe rY fb;obtain ⟨aw,_⟩:=vO aJe;subst aw;have k0:wo.cell? ⟨b,o+k * 2,none⟩ = some (.string y.key):=r' ax (by have:=hcells 0 _ rfl;rwa [show o+(k * ba.size ao+0) = o+k * 2 by show o+(k * 2+0) = _;omega] at this) bc;have k1:wo.cell? ⟨b,o+k * 2+1,none⟩ = some (.string y.value):=r' ax (by have:=hcells 1 _ rfl;rwa [show o+(k * ba.size ao+1) = o+k * 2+1 by show o+(k * 2+1) = _;omega] at this) bc;have Jf:=I fb;have Md:=I rY;clear hcells hy fb rY;have r7:=I (show ∀z∈aL (kS fN) [] (xs.take k),z∈xs from fun z hz=>List.mem_of_mem_take (Vf hz));generalize aL (kS fN) [] (xs.take k) = SS at *;obtain ⟨kz,ev,o7,hgc⟩:=IE bk;have MS:w2.heap.size≤wo.heap.size:=ax.size;have eZ:b < wo.heap.size:=J;have lL:=I hgc;have ir:=I bk;have e':=I ax;clear hgc bk ax;go_wp2_with fail
    go_loopw [7] (fun j wr=>∃(s1 s2:List ao) (jj:Nat),Hid (SS = s1++s2)∧j = .int .i64 (jj:Int)∧Hid (s1.length = jj)∧Hid (∀z∈s1,kS fN y z = false)∧Below wo.heap.size wo wr) (fun j _=>N - (intOf j).toNat)
    case atStart=>exact ⟨[],SS,0,I rfl,rfl,I rfl,I (fun z hz=>by cases hz),aj _⟩
    case round =>
     obtain ⟨s1,s2,jj,HE,rfl,HJ,HN,bF⟩:=hrel;have mc:∀bq oq u,wo.cell? ⟨bq,oq,none⟩ = some u→bq < wo.heap.size→wr.cell? ⟨bq,oq,none⟩ = some u:=fun bq oq u h1 h2=>(bF.cell (p:=⟨bq,oq,none⟩) h2).trans h1;replace k0:=mc _ _ _ k0 eZ;replace k1:=mc _ _ _ k1 eZ;have MC:=I mc;have mo:wo.heap.size≤wr.heap.size:=bF.size;have nX:b < wr.heap.size:=J;have mB:g < wr.heap.size:=J;clear mc;cases s2 with
     | nil =>
       have gh:jj = N:=(by have e1:=HE.out;have e2:=cT.out;have e3:=HJ.out;rw [e1,List.append_nil] at e2;omega);have pI:N≤jj:=J;have pJ:decide ((jj:Int) < (N:Int)) = false:=(by simp;omega);have pL:decide (jj < N) = false:=(by simp;omega);clear gh;have HI:=I (show OM (kS fN) y (SS) = s1++y :: [] by rw [HE.out];exact PY s1 [] HN.out (.inl rfl));go_wp2_with fail
       refine aF wr U' U' (aj _) ?_
       repeat ((first | refine aG O ?_ | refine aH _ O dE ?_);simp only [Act.put,pz])
       refine aN ?_;intro wn hn;replace hn:=hn.out;have bw:Below wo.heap.size wo wn:=ah bF hn;have l7:=I (show Below w2.heap.size w2 wn from ah e'.out bw);have RJ:=mG ir.out bw;obtain ⟨_,fa,apy,V4⟩:=IE RJ
       have ey:=I (show ∀q u,(s1.flatMap ib)[q]? = some u→wn.cell? ((⟨g,0,none⟩:Addr).add q) = some u from fun q u hu=>by
        rw [Addr.add_lit,Nat.zero_add];refine V4 q u ?_
        rw [HE.out,List.flatMap_append,List.getElem?_append_left (List.getElem?_eq_some_iff.1 hu).1];exact hu)
       have Gn:=I (show ∀q u,((([]:List ao)).flatMap ib)[q]? = some u→wn.cell? ⟨g,jj * 2+q,none⟩ = some u from fun q u hu=>by
        refine V4 (jj * 2+q) u ?_
        rw [HE.out,List.flatMap_append,List.getElem?_append_right (by rw [lE (row:=ib) (S:=2) (fun _=>rfl),HJ.out];omega),lE (row:=ib) (S:=2) (fun _=>rfl),HJ.out,Nat.add_sub_cancel_left];exact hu)
       have cK:jj+(([]:List ao)).length = N:=(by have e1:=congrArg List.length HE.out;have e2:=cT.out;have e3:=HJ.out;rw [List.length_append] at e1;omega);have oL:jj≤N:=J;have pa:jj≤cap:=J;replace k0:=r' hn k0 ew;replace k1:=r' hn k1 ew;have pb:b < wn.heap.size:=(by have:=hn.size;omega);have im:=I cK;have ka:=I bw;clear RJ V4 cK bw;go_wp2_with fail
       refine zU wn 12 U' U' (aj _) ?_;refine YU (fun a0 a' w'=>∃(g9 p9:Nat) (da db dc dd de df dh dt eA eB:Value),a' = (Act.put (Act.put (Act.put (Act.put (Act.put (Act.put (Act.put (Act.put (Act.put (Act.put (Act.put (Act.put a0 (some 42) (da)) (some 43) (db)) (some 44) (dc)) (some 45) (dd)) (some 46) (de)) (some 47) (df)) (some 48) (dh)) (some 49) (dt)) (some 50) (eA)) (some 51) (eB)) (some 52) (.slice (some ⟨g9,0,none⟩) (jj+1) p9)) (some 8) (.slice (some ⟨g9,0,none⟩) (jj+1) p9))∧Below wn.heap.size wn w'∧World.ownsRow w' wn.heap.size 67 2 (.slice (some ⟨g9,0,none⟩) (jj+1) p9) (jj+1) ((s1.flatMap ib)++[.string y.key,.string y.value])) ?_ ?_;rotate_left
       ·exact Hm
       intro a' w7 fr;obtain ⟨g9,p9,da,db,dc,dd,de,df,dh,dt,eA,eB,rfl,bz,nK⟩:=fr;try simp only [Act.put,pz]
       have cE:∃A0:Addr,(if cap = jj then some (⟨g,0,none⟩:Addr) else some ⟨g,jj * 2,none⟩) = some A0∧Hid (A0.block = g∧∀q u,((([]:List ao)).flatMap ib)[q]? = some u→w7.cell? (A0.add q) = some u):=by
        by_cases hc:cap = jj
        ·exact uF
        ·exact ⟨⟨g,jj * 2,none⟩,by simp [hc],rfl,fun q u hu=>by simp at hu⟩
       obtain ⟨A0,hA0,asg⟩:=cE;have bB:N - jj = (([]:List ao)).length:=(by have:=im.out;omega);have l':=I bB;clear bB
       go_wp2_with (
        at_builtin
        go_must (refine xW k9 O _ _ O w7 wn.heap.size _ _ _ nK O A0 0 (cap - jj) ((([]:List ao)).flatMap ib) O O asg.out.2 (nP we _) J J lB ?_)
        intro v8 w8 Le cN kb;rw [show jj+1+0 = N+1 by omega] at Le;obtain ⟨g8,p8,hv8,aJs,aJt,aJu⟩:=wW Le J
        subst hv8)
       exact Ir
     | cons z s2 =>
       have gh:jj < N:=(by have e1:=congrArg List.length HE.out;have e2:=cT.out;have e3:=HJ.out;rw [List.length_append,List.length_cons] at e1;omega);have z0:wr.cell? ⟨g,jj * 2,none⟩ = some (.string z.key):=MC.out _ _ _ (lL.out (jj * 2+0) _ (by rw [HE.out];exact tJ (row:=ib) (S:=2) (fun _=>rfl) _ jj z uR 0 _ rfl)) ev;have z1:wr.cell? ⟨g,jj * 2+1,none⟩ = some (.string z.value):=MC.out _ _ _ (lL.out (jj * 2+1) _ (by rw [HE.out];exact tJ (row:=ib) (S:=2) (fun _=>rfl) _ jj z uR 1 _ rfl)) ev;have pJ:decide ((jj:Int) < (N:Int)) = true:=(by simp;omega);have Mc:=I (show z∈xs from r7.out z yL);cases hL:kS fN y z with
       | false =>have HL:=I hL;have eM:=AF hL;obtain ⟨AH,hle2⟩:=eM;clear hL;exact Hz
       | true =>
         have HL:=I hL;have eM:=AG hL;have HI:=I (show OM (kS fN) y (SS) = s1++y :: (z :: s2) by rw [HE.out];exact PY s1 (z :: s2) HN.out (.inr ⟨_,_,rfl,HL.out⟩));clear hL;go_wp2_with fail
         refine aF wr U' U' (aj _) ?_
         repeat ((first | refine aG O ?_ | refine aH _ O dE ?_);simp only [Act.put,pz])
         refine aN ?_;intro wn hn;replace hn:=hn.out;have bw:Below wo.heap.size wo wn:=ah bF hn;have l7:=I (show Below w2.heap.size w2 wn from ah e'.out bw);have RJ:=mG ir.out bw;obtain ⟨_,fa,apy,V4⟩:=IE RJ
         have ey:=I (show ∀q u,(s1.flatMap ib)[q]? = some u→wn.cell? ((⟨g,0,none⟩:Addr).add q) = some u from fun q u hu=>by
          rw [Addr.add_lit,Nat.zero_add];refine V4 q u ?_
          rw [HE.out,List.flatMap_append,List.getElem?_append_left (List.getElem?_eq_some_iff.1 hu).1];exact hu)
         have Gn:=I (show ∀q u,((z :: s2).flatMap ib)[q]? = some u→wn.cell? ⟨g,jj * 2+q,none⟩ = some u from fun q u hu=>by
          refine V4 (jj * 2+q) u ?_
          rw [HE.out,List.flatMap_append,List.getElem?_append_right (by rw [lE (row:=ib) (S:=2) (fun _=>rfl),HJ.out];omega),lE (row:=ib) (S:=2) (fun _=>rfl),HJ.out,Nat.add_sub_cancel_left];exact hu)
         have cK:jj+(z :: s2).length = N:=(by have e1:=congrArg List.length HE.out;have e2:=cT.out;have e3:=HJ.out;rw [List.length_append] at e1;omega);have oL:jj≤N:=J;have pa:jj≤cap:=J;have MT:¬cap = jj:=J;replace k0:=r' hn k0 ew;replace k1:=r' hn k1 ew;have pb:b < wn.heap.size:=(by have:=hn.size;omega);have im:=I cK;have ka:=I bw;clear RJ V4 cK bw;go_wp2_with fail
         refine zU wn 12 U' U' (aj _) ?_;refine YU (fun a0 a' w'=>∃(g9 p9:Nat) (da db dc dd de df dh dt eA eB:Value),a' = (Act.put (Act.put (Act.put (Act.put (Act.put (Act.put (Act.put (Act.put (Act.put (Act.put (Act.put (Act.put a0 (some 42) (da)) (some 43) (db)) (some 44) (dc)) (some 45) (dd)) (some 46) (de)) (some 47) (df)) (some 48) (dh)) (some 49) (dt)) (some 50) (eA)) (some 51) (eB)) (some 52) (.slice (some ⟨g9,0,none⟩) (jj+1) p9)) (some 8) (.slice (some ⟨g9,0,none⟩) (jj+1) p9))∧Below wn.heap.size wn w'∧World.ownsRow w' wn.heap.size 67 2 (.slice (some ⟨g9,0,none⟩) (jj+1) p9) (jj+1) ((s1.flatMap ib)++[.string y.key,.string y.value])) ?_ ?_;rotate_left
         ·exact Hm
         intro a' w7 fr;obtain ⟨g9,p9,da,db,dc,dd,de,df,dh,dt,eA,eB,rfl,bz,nK⟩:=fr;try simp only [Act.put,pz]
         have bB:N - jj = (z :: s2).length:=(by have:=im.out;omega);have l':=I bB;clear bB
         go_wp2_with (
          at_builtin
          go_must (refine xW k9 O _ _ O w7 wn.heap.size _ _ _ nK O ⟨g,jj * 2,none⟩ (N - jj) (cap - jj) ((z :: s2).flatMap ib) O (by rw [lE (row:=ib) (S:=2) (fun _=>rfl),l'.out]) (fun q u hu=>by rw [Addr.add_lit];exact (bz.cell (p:=⟨g,jj * 2+q,none⟩) fa).trans (Gn.out q u hu)) (nP we _) J J lB ?_)
          intro v8 w8 Le cN kb;rw [show jj+1+(N - jj) = N+1 by omega] at Le;obtain ⟨g8,p8,hv8,aJs,aJt,aJu⟩:=wW Le J
          subst hv8)
         exact Ir
   ·have bB:k = xs.length:=J;subst bB;rw [List.take_length] at bk cT;have py:=I (show Below w.heap.size w wr from lf.out.trans (ax.mono lf.out.size));have CW:=I ax;have cF:∀z∈aL (kS fN) [] (xs),z∈xs:=fun z hz=>Vf hz;rw [← cT.out] at bk;obtain ⟨A4,c4,G4,hv4,hO4⟩:=PL (β:=ao) (row:=ib) rfl (aL (kS fN) [] (xs)) bk (fun x hx=>aBD ru.out (cF x hx) wr);rw [cT.out] at hv4;simp only [Value.slice.injEq,true_and] at hv4;obtain ⟨r8,fh⟩:=hv4;subst r8 fh;have lz:=I (hO4.mono lf.out.size);have l8:=I (er.oJ bk lf.out.size);have kr:=I (Jw (aL (kS fN) [] (xs)) _ N cap G4 wr hO4.rd cT.out.symm (by rw [cT.out];omega) (fun l hl=>Eo.out l (cF l hl)));clear ax bk hO4 cF;cases hr:sD (aL (kS fN) [] (xs)) with
    | true =>have HR:=I (ayQ hr);exact zH
    | false =>have HR:=I (Vc hr);have oM:=I hr;clear hr;obtain ⟨A3,c3,G3,kX,hO3⟩:=am.of_flat (fun {w x cs F} hh=>(vO hh).2.1) gm.out mK.out;exact y8
theorem V0 (xs:List ao) (A:Option Addr) (c:Nat) (F:List Nat) (w:World) (h:Sl w xs A c F) (hl:(xs.length:Int)≤1048576) (cR:∀l∈xs,(l.key.size:Int)≤1048576∧(l.value.size:Int)≤1048576) :
 Calls Tryz.prog 36 #[.slice A xs.length c] w fun e w'=>∃A' c' G,e = .returned (.tuple #[.slice A' (BG xs).1.length c',.bool (BG xs).2])∧am w' w.heap.size (BG xs).1 [.slice A' (BG xs).1.length c'] G∧Below w.heap.size w w' :=
 (VW xs A c F w h hl cR).mono fun _ _ ⟨A',c',G,a,b,d,_⟩=>⟨A',c',G,a,b,d⟩
end Go.Proofs.YtajbbmembionpaaGreat
