/- SortLabels in plain Lean. No condition. -/
import Derived.Test.YtajbbmembionpaaGreatNeedLess
import Derived.Test.YtajbbmembionpaaGreatRows2
import Derived.Test.YtajbbmembionpaaGreatCopyH
namespace Go.Proofs.YtajbbmembionpaaGreat
open Go.ChangeShapes Go.WideShapes Go.ChangeAt Go.RowKit
set_option linter.unusedVariables false
set_option linter.unusedSimpArgs false
set_option maxHeartbeats 8000000
set_option maxRecDepth 100000
def fm (x y:ap):Int:=Lib.compareBytes x.key.data.toList y.key.data.toList
def BG (xs:List ap):List ap × Bool:=if sD (bz (kS fm) [] xs) = true then (bz (kS fm) [] xs,true) else (xs,false)
theorem WG {xs:List ap} (h:sD (bz (kS fm) [] xs) = true):BG xs = (bz (kS fm) [] xs,true):=if_pos h
theorem QF {xs:List ap} (h:sD (bz (kS fm) [] xs) = false):BG xs = (xs,false):=if_neg (by rw [h];simp)
theorem QG {lt:ap→ap→Bool} {z:ap} : ∀(ys acc:List ap),z∈bz lt acc ys→z∈acc∨z∈ys
 | [],acc,h=>.inl h
 | y :: ys,acc,h=>by
   rw [bz] at h;rcases QG ys _ h with h | h
   ·exact DQ
   ·exact .inr (List.mem_cons_of_mem _ h)
theorem QH {xs:List ap} {z:ap} (h:z∈bz (kS fm) [] xs):z∈xs:=by
 rcases QG xs [] h with h | h
 ·cases h
 ·exact h
theorem QI (xs:List ap):(bz (kS fm) [] xs).length = xs.length:=by rw [rD];simp
theorem QJ {lt:ap→ap→Bool} (f:ap→Nat) (y:ap):∀r:List ap,((OM lt y r).map f).sum = f y+(r.map f).sum
 | []=>by simp [OM]
 | x :: r=>by
   have:=QJ (lt:=lt) f y r;unfold OM;split <;> simp only [List.map_cons,List.sum_cons] <;> omega
theorem QK {lt:ap→ap→Bool} (f:ap→Nat):∀xs acc:List ap,((bz lt acc xs).map f).sum = (acc.map f).sum+(xs.map f).sum
 | [],_=>by simp [bz]
 | x :: xs,acc=>by
   have h1:=QK (lt:=lt) f xs (OM lt x acc);have h2:=QJ (lt:=lt) f x acc;rw [bz,h1,h2];exact pE
theorem QN (xs:List ap):kL ap.wt (BG xs).1 = kL ap.wt xs:=by
 have h:=QK (lt:=kS fm) ap.wt xs [];have hl:=QI xs;unfold BG kL;split
 ·dsimp only;simp only [List.map_nil,List.sum_nil] at h;omega
 ·rfl
structure Cc (w wk:World) (cs zs os:List Value):Prop where
 cM:oG wk w.heap.size cs
 rb:oG wk (w.heap.size+1) zs
 ob:oG wk (w.heap.size+1+1) os
 aD:Below w.heap.size w wk
section
variable {w wk w':World} {cs zs os:List Value}
theorem Cc.new (w:World) (cs zs os:List Value) (t:TypeId):Cc w (((w.alloc (.cells cs.toArray t)).alloc (.cells zs.toArray t)).alloc (.cells os.toArray t)) cs zs os :=
 have h:=(Cp.new w cs zs t t).ext (ak (aj _) (.cells os.toArray t))
 ⟨h.cM,h.rb,(by have:=oG.new ((w.alloc (.cells cs.toArray t)).alloc (.cells zs.toArray t)) os t;rw [World.size_alloc,World.size_alloc] at this;exact this),h.aD⟩
theorem Cc.ext (h:Cc w wk cs zs os) (X:Below wk.heap.size wk w'):Cc w w' cs zs os:=⟨h.cM.ext X,h.rb.ext X,h.ob.ext X,ah h.aD X⟩
theorem Cc.put (h:Cc w wk cs zs os) (i:Nat) (u:Value):Cc w (wk.setCell ⟨w.heap.size+1+1,i,none⟩ u) cs zs (os.set i u):=⟨h.cM.bj J i u,h.rb.bj J i u,h.ob.put i u,aC h.aD bA u⟩
theorem Cc.bj (h:Cc w wk cs zs os) {c:Nat} (hc:w.heap.size+1+1 < c) (i:Nat) (u:Value):Cc w (wk.setCell ⟨c,i,none⟩ u) cs zs os:=⟨h.cM.bj J i u,h.rb.bj J i u,h.ob.bj J i u,aC h.aD bA u⟩
theorem Cc.lt (h:Cc w wk cs zs os):w.heap.size+1+1 < wk.heap.size:=h.ob.lt
theorem Cc.grown {row:Option Nat} (h:Cc w wk cs zs os) (hg:wk.grownBy w' row) (hr:∀q,row = some q→w.heap.size+1+1 < q):Cc w w' cs zs os :=
 ⟨h.cM.bs (hg.block _ h.cM.lt I3),h.rb.bs (hg.block _ h.rb.lt I3),h.ob.bs (hg.block _ h.ob.lt I3),
  ⟨hg.os.trans h.aD.os,hg.tape.trans h.aD.tape,hg.output.trans h.aD.output,Nat.le_trans h.aD.size hg.size,fun i hi=>(hg.block i Vx I3).trans (h.aD.block i hi)⟩⟩
end
theorem oG.grown {w w':World} {g:Nat} {cs:List Value} {row:Option Nat} (h:oG w g cs) (hg:w.grownBy w' row) (hr:∀q,row = some q→q≠g):oG w' g cs:=h.bs (hg.block _ h.lt (fun e=>hr g e.symm rfl))
theorem am.XZ {α:Type} [bc α] {w w':World} {B B2:Nat} {x:α} {cs:List Value} {F:List Nat} {row:Option Nat} (h:am w B x cs F) (hg:w.grownBy w' row) (hF:∀y∈F,y < B2) (hr:∀q,row = some q→B2≤q):am w' B x cs F :=
 h.bs (fun y hy=>hg.block y (h.lt y hy) VF) hg.size
theorem am.X9 {w:World} {B:Nat} {p:nI} {nm:ByteArray} {n:Int} {ps:List Value} {G:List Nat} (h:am w B p ps G) (h1:nm.size≤maxLen) (h2:br n):am w B (⟨p,nm,n⟩:ag) (ps++[.string nm,.int .i64 n]) G:=by
 refine am.up (B':=B) (fun x:ag=>(x.aS,x.on,x.seq)) ?_ (Nat.le_refl _);have h3:am w (B+w.heap.size) (nm,n) ([.string nm]++[.int .i64 n]) []:=am.cons (dE w nm (rV h1)) (am.cK (jL w n h2));have h4:=am.ez h h3 J (fun b X=>by have:=h.lt b X;omega);simpa using h4
theorem am.X' {w:World} {B B3 B4:Nat} {H:List ba} {P:List ag} {n p q f:Int} {Ah Ap:Option Addr} {ch cp:Nat} {Gh Gp:List Nat} (h:am w B3 H [.slice Ah H.length ch] Gh) (k:am w B4 P [.slice Ap P.length cp] Gp) (hB:B≤B3) (uM:B3≤B4) (hG:∀y∈Gh,y < B4) (Z:br n) (hp:br p) (hq:br q) (hf:br f) :
 am w B (⟨H,P,n,⟨p,q,f⟩⟩:aU) [.slice Ah H.length ch,.slice Ap P.length cp,.int .i64 n,.int .i64 p,.int .i64 q,.int .i64 f] (Gh++Gp):=by
 refine am.up (B':=B3) (fun x:aU=>(x.aa,x.V,x.next,x.weights)) ?_ hB;have h5:am w (B4+w.heap.size) (⟨p,q,f⟩:rZ) ([.int .i64 p]++([.int .i64 q]++[.int .i64 f])) []:=by refine am.up (B':=B4+w.heap.size) (fun x:rZ=>(x.pack,x.af,x.an)) ?_ (Nat.le_refl _);exact am.cons (jL w p hp) (am.cons (jL w q hq) (am.cK (jL w f hf)))
 have h6:=am.cons (jL w n Z) h5;have h7:=am.ez h (am.ez k h6 J (fun b X=>by have:=k.lt b X;omega)) uM hG;simpa using h7
theorem Yd:(Tryz.prog.info? 47).map (fun i=>(i.zero,i.size,i.bytes)) = some (some ((.agg #[.string ⟨#[]⟩,.slice none 0 0,.int .i64 0,.int .i64 0,.int .i64 0,.slice none 0 0])),6,88):=by kernel_rfl
theorem Mv:DL Tryz.prog 24 47 ((.agg #[.string ⟨#[]⟩,.slice none 0 0,.int .i64 0,.int .i64 0,.int .i64 0,.slice none 0 0])) 6 88:=⟨Tryz.underlying24,Yd,rfl,J⟩
theorem Ye:(Tryz.prog.info? 53).map (fun i=>(i.zero,i.size,i.bytes)) = some (some ((.agg #[.string ⟨#[]⟩,.slice none 0 0,.int .i64 0,.int .i64 0,.int .i64 0,.slice none 0 0,.slice none 0 0,.string ⟨#[]⟩,.int .i64 0])),9,136):=by kernel_rfl
theorem YH:DL Tryz.prog 25 53 ((.agg #[.string ⟨#[]⟩,.slice none 0 0,.int .i64 0,.int .i64 0,.int .i64 0,.slice none 0 0,.slice none 0 0,.string ⟨#[]⟩,.int .i64 0])) 9 136:=⟨Tryz.underlying25,Ye,rfl,J⟩
theorem Yf (x:aU) (hw:(x.wt:Int)≤1048576):(x.aa.length:Int)≤1048576∧(x.V.length:Int)≤1048576∧Hid (∀h∈x.aa,(h.labels.length:Int)≤1048576∧(h.aT.length:Int)≤1048576) ∧
 Hid (∀p∈x.V,(p.aS.labels.length:Int)≤1048576∧(p.aS.ai.length:Int)≤1048576∧(p.aS.ae.length:Int)≤1048576∧∀y∈p.aS.ai,(y.values.length:Int)≤1048576):=by
 have im:x.wt = kL ba.wt x.aa+kL ag.wt x.V:=rfl;have h1:=gJ ba.wt x.aa;have h2:=gJ ag.wt x.V;refine ⟨J,J,I fun h hh=>?_,I fun p hp=>?_⟩
 ·have h3:h.name.size+kL ap.wt h.labels+kL iU.wt h.aT≤kL ba.wt x.aa:=Bq (f:=ba.wt) hh;have h4:=gJ ap.wt h.labels;have h5:=gJ iU.wt h.aT;constructor <;> omega
 ·have h3:(p.aS.name.size+kL ap.wt p.aS.labels+kL aM.wt p.aS.ai+kL bH.wt p.aS.ae)+p.on.size≤kL ag.wt x.V:=Bq (f:=ag.wt) hp;have h4:=gJ ap.wt p.aS.labels;have h5:=gJ aM.wt p.aS.ai;have h6:=gJ bH.wt p.aS.ae;refine ⟨J,J,J,fun y hy=>?_⟩;have h7:y.key.size+kL ByteArray.size y.values≤kL aM.wt p.aS.ai:=Bq (f:=aM.wt) hy;have h8:=gJ ByteArray.size y.values;omega
theorem XJ:(Tryz.prog.info? 67).map (fun i=>(i.zero,i.size,i.bytes)) = some (some (.agg #[.string ⟨#[]⟩,.string ⟨#[]⟩]),2,32):=by kernel_rfl
theorem kk:DL Tryz.prog 31 67 (.agg #[.string ⟨#[]⟩,.string ⟨#[]⟩]) 2 32:=⟨Tryz.underlying31,XJ,rfl,J⟩
theorem XK {w:World} {xs:List ap} (h:∀x∈xs,rd w x (gO x) []) {x:ap} (hx:x∈xs) (w':World):rd w' x (gO x) []:=by
 obtain ⟨h0,h1,h2,h3⟩:=vO (h x hx);exact EH w' x h2 h3
theorem yt {y z:ap} (h:kS fm y z = false):(Op.bytesLess z.key.toList y.key.toList || z.key.toList == y.key.toList) = true∧(Op.bytesLess y.key.toList z.key.toList) = false:=by
 have h1:¬fm y z < 0:=by simpa [kS] using h
 have h2:fm z y = - fm y z:=LO.gz _ _;have hh:Op.bytesLess y.key.toList z.key.toList = false:=by
  cases X:Op.bytesLess y.key.toList z.key.toList with
  | false=>rfl
  | true =>rw [← Wx,ByteArray.toList_eq,ByteArray.toList_eq] at X;exact absurd X h1
 refine ⟨?_,hh⟩;by_cases h3:fm y z = 0
 ·have:=(J5 _ _).1 h3;rw [ByteArray.toList_eq,ByteArray.toList_eq,this];simp
 ·have h4:fm z y < 0:=by omega
  have:=(Wx _ _).1 h4;rw [ByteArray.toList_eq,ByteArray.toList_eq,this];rfl
theorem yv {y z:ap} (h:kS fm y z = true):(Op.bytesLess z.key.toList y.key.toList || z.key.toList == y.key.toList) = false:=by
 have h1:fm y z < 0:=by simpa [kS] using h
 have h2:fm z y = - fm y z:=LO.gz _ _;rw [Bool.or_eq_false_iff];constructor
 ·cases X:Op.bytesLess z.key.toList y.key.toList with
  | false=>rfl
  | true =>rw [← Wx,ByteArray.toList_eq,ByteArray.toList_eq] at X;have:fm z y < 0:=X;omega
 ·cases X:(z.key.toList == y.key.toList) with
  | false=>rfl
  | true =>rw [beq_iff_eq,ByteArray.toList_eq,ByteArray.toList_eq] at X;have:fm z y = 0:=(J5 _ _).2 X;omega
theorem XM {xs:List ap} (h:sD xs = true):xs.length≤6:=by
 unfold sD nd at h;exact tp
theorem Rh (xs:List ap) (A:Option Addr) (c:Nat) (F:List Nat) (w:World) (h:Sl w xs A c F) (hl:(xs.length:Int)≤1048576) (cP:∀l∈xs,(l.key.size:Int)≤1048576∧(l.value.size:Int)≤1048576) :
 Calls Tryz.prog 36 #[.slice A xs.length c] w fun e w'=>∃A' c' G,e = .returned (.tuple #[.slice A' (BG xs).1.length c',.bool (BG xs).2])∧am w' w.heap.size (BG xs).1 [.slice A' (BG xs).1.length c'] G∧Below w.heap.size w w'∧((BG xs).2 = true→eB w' w.heap.size 67 2 A' c'):=by
 have Eo:=I cP;clear cP
 have pM:=I (show ∀x∈xs,rd w x (gO x) [] from fun x hx=>by
  obtain ⟨k,hk,rfl⟩:=List.getElem_of_mem hx;obtain ⟨b,o,ck,Fk,_,_,_,hr,_,_⟩:=h.get hk;have h2:=vO hr;rw [h2.1,h2.2.1] at hr
  exact hr)
 go_enter Tryz.func36,Tryz.ntmps36
 go_wp2_with (
  at_builtin
  go_must (refine rW kk O O _ _ O (w.alloc (.cells #[] 67)) w.heap.size _ 0 [] (D9 w 67 2 w.heap.size rfl) O xs A c F (h.ext (ak (aj _) _)) O J J S' ?_)
  intro v2 w2 ds G dt bB bk hg cY;go_must (obtain ⟨A2,c2,gn⟩:=mY bk)
  go_must (subst gn)
  go_must (have ar:Below w.heap.size w w2:=lS (World.ownsRow_made (e:=67) (size:=2) w #[] 0 (Nat.le_refl _) (Nat.zero_le _) S') hg (ak (aj _) _) S'))
 all_goals
  simp only [Nat.zero_add,List.nil_append] at bk;try simp only [Nat.zero_add]
 ·have pB:¬xs.length≤6:=by omega
  have HR:=I (QF (by cases hh:sD (bz (kS fm) [] xs) with
  | false=>rfl
  | true=>have:=XM hh;rw [QI] at this;omega))
  have pq:jo w2 xs ds G:=dt.frame (fun b X=>hg.block b (dt.lt b X) (fun e=>by have h1:=h.lt b (bB b X);simp [Value.ownBlock] at e;omega)) hg.size;obtain ⟨A3,c3,G3,jx,hO3⟩:=am.cZ (fun {w x cs F} hh=>(vO hh).2.1) bk pq;exact xv
 ·have pB:xs.length≤6:=by omega
  have l8:=I (show jo w2 xs ds G from dt.frame (fun b X=>hg.block b (dt.lt b X) (fun e=>by have h1:=h.lt b (bB b X);simp [Value.ownBlock] at e;omega)) hg.size);have fY:=I bk;have iL:=I ar;have cR:Sl w2 xs A c F:=h.ext ar;clear bk dt hg cY bB ar;go_wp2_with fail
  go_loopw [5,6] (fun v i wr=>∃k N g aq:Nat,k≤xs.length∧N≤k∧i = .int .i64 (k:Int)∧v = .slice (some ⟨g,0,none⟩) N aq∧Hid ((bz (kS fm) [] (xs.take k)).length = N)∧wr.ownsRow w2.heap.size 67 2 (.slice (some ⟨g,0,none⟩) N aq) N ((bz (kS fm) [] (xs.take k)).flatMap gO)∧Below w2.heap.size w2 wr) (fun _ i _=>xs.length - (intOf i).toNat)
  case atStart=>exact ⟨0,0,w2.heap.size,0,J,Nat.le_refl _,rfl,rfl,I rfl,D9 w2 67 2 w2.heap.size rfl,ak (aj _) _⟩
  case round =>
   obtain ⟨k,N,g,aq,hk,hNk,rfl,rfl,di,bd,aR⟩:=hrel;by_cases ax:k < xs.length
   ·obtain ⟨wo,hwo⟩:∃wo,wo = wr:=⟨_,rfl⟩;subst hwo;obtain ⟨b,o,ck,Fk,hA,hbG,hbs,aJe,_,hcells⟩:=Sl.get cR ax;subst hA;have qv:xs[k]∈xs:=List.getElem_mem ..;have fl:bz (kS fm) [] (xs.take (k+1)) = OM (kS fm) xs[k] (bz (kS fm) [] (xs.take k)):=(by rw [List.take_succ_eq_append_getElem ax,V3]);obtain ⟨y,hy⟩:∃y,xs[k] = y:=⟨_,rfl⟩;rw [hy] at aJe qv fl;obtain ⟨aE,_⟩:=vO aJe;subst aE;have k0:wo.cell? ⟨b,o+k * 2,none⟩ = some (.string y.key):=r' aR (by have:=hcells 0 _ rfl;rwa [show o+(k * bc.size ap+0) = o+k * 2 by show o+(k * 2+0) = _;omega] at this) hbs;have k1:wo.cell? ⟨b,o+k * 2+1,none⟩ = some (.string y.value):=r' aR (by have:=hcells 1 _ rfl;rwa [show o+(k * bc.size ap+1) = o+k * 2+1 by show o+(k * 2+1) = _;omega] at this) hbs;have Jf:=I fl;have IT:=I qv;clear hcells hy fl qv;have qx:=I (show ∀z∈bz (kS fm) [] (xs.take k),z∈xs from fun z hz=>List.mem_of_mem_take (QH hz));generalize bz (kS fm) [] (xs.take k) = SS at *;obtain ⟨kp,eA,l6,hgc⟩:=IE bd;have J3:w2.heap.size≤wo.heap.size:=aR.size;have eK:b < wo.heap.size:=J;have kX:=I hgc;have gg:=I bd;have eN:=I aR;clear hgc bd aR;go_wp2_with fail
    go_loopw [7] (fun j wr=>∃(s1 s2:List ap) (jj:Nat),Hid (SS = s1++s2)∧j = .int .i64 (jj:Int)∧Hid (s1.length = jj)∧Hid (∀z∈s1,kS fm y z = false)∧Below wo.heap.size wo wr) (fun j _=>N - (intOf j).toNat)
    case atStart=>exact ⟨[],SS,0,I rfl,rfl,I rfl,I (fun z hz=>by cases hz),aj _⟩
    case round =>
     obtain ⟨s1,s2,jj,HE,rfl,HJ,HN,bL⟩:=hrel;have mc:∀bq oq u,wo.cell? ⟨bq,oq,none⟩ = some u→bq < wo.heap.size→wr.cell? ⟨bq,oq,none⟩ = some u:=fun bq oq u h1 h2=>(bL.cell (p:=⟨bq,oq,none⟩) h2).trans h1;replace k0:=mc _ _ _ k0 eK;replace k1:=mc _ _ _ k1 eK;have MC:=I mc;have k9:wo.heap.size≤wr.heap.size:=bL.size;have mS:b < wr.heap.size:=J;have lX:g < wr.heap.size:=J;clear mc;cases s2 with
     | nil =>
       have gl:jj = N:=(by have e1:=HE.out;have e2:=di.out;have e3:=HJ.out;rw [e1,List.append_nil] at e2;omega);have o1:N≤jj:=J;have o3:decide ((jj:Int) < (N:Int)) = false:=(by simp;omega);have o4:decide (jj < N) = false:=(by simp;omega);clear gl;have HI:=I (show OM (kS fm) y (SS) = s1++y :: [] by rw [HE.out];exact PY s1 [] HN.out (.inl rfl));go_wp2_with fail
       refine aF wr U' U' (aj _) ?_
       repeat ((first | refine aG O ?_ | refine aH _ O dz ?_);simp only [Act.put,pz])
       refine aN ?_;intro wn Z;replace Z:=Z.out;have bw:Below wo.heap.size wo wn:=ah bL Z;have lw:=I (show Below w2.heap.size w2 wn from ah eN.out bw);have RJ:=mG gg.out bw;obtain ⟨_,eO,apy,V4⟩:=IE RJ
       have eo:=I (show ∀q u,(s1.flatMap gO)[q]? = some u→wn.cell? ((⟨g,0,none⟩:Addr).add q) = some u from fun q u hu=>by
        rw [Addr.add_lit,Nat.zero_add];refine V4 q u ?_
        rw [HE.out,List.flatMap_append,List.getElem?_append_left (List.getElem?_eq_some_iff.1 hu).1];exact hu)
       have Gn:=I (show ∀q u,((([]:List ap)).flatMap gO)[q]? = some u→wn.cell? ⟨g,jj * 2+q,none⟩ = some u from fun q u hu=>by
        refine V4 (jj * 2+q) u ?_
        rw [HE.out,List.flatMap_append,List.getElem?_append_right (by rw [kI (row:=gO) (S:=2) (fun _=>rfl),HJ.out];omega),kI (row:=gO) (S:=2) (fun _=>rfl),HJ.out,Nat.add_sub_cancel_left];exact hu)
       have dp:jj+(([]:List ap)).length = N:=(by have e1:=congrArg List.length HE.out;have e2:=di.out;have e3:=HJ.out;rw [List.length_append] at e1;omega);have nL:jj≤N:=J;have oe:jj≤aq:=J;replace k0:=r' Z k0 en;replace k1:=r' Z k1 en;have om:b < wn.heap.size:=(by have:=Z.size;omega);have gS:=I dp;have ju:=I bw;clear RJ V4 dp bw;go_wp2_with fail
       refine zU wn 12 U' U' (aj _) ?_;refine YU (fun a0 a' w'=>∃(g9 p9:Nat) (da db dc de df dg dh dv ev ew:Value),a' = (Act.put (Act.put (Act.put (Act.put (Act.put (Act.put (Act.put (Act.put (Act.put (Act.put (Act.put (Act.put a0 (some 42) (da)) (some 43) (db)) (some 44) (dc)) (some 45) (de)) (some 46) (df)) (some 47) (dg)) (some 48) (dh)) (some 49) (dv)) (some 50) (ev)) (some 51) (ew)) (some 52) (.slice (some ⟨g9,0,none⟩) (jj+1) p9)) (some 8) (.slice (some ⟨g9,0,none⟩) (jj+1) p9))∧Below wn.heap.size wn w'∧World.ownsRow w' wn.heap.size 67 2 (.slice (some ⟨g9,0,none⟩) (jj+1) p9) (jj+1) ((s1.flatMap gO)++[.string y.key,.string y.value])) ?_ ?_;rotate_left
       ·exact D'
       intro a' w7 fb;obtain ⟨g9,p9,da,db,dc,de,df,dg,dh,dv,ev,ew,rfl,bC,nK⟩:=fb;try simp only [Act.put,pz]
       have ce:∃A0:Addr,(if aq = jj then some (⟨g,0,none⟩:Addr) else some ⟨g,jj * 2,none⟩) = some A0∧Hid (A0.block = g∧∀q u,((([]:List ap)).flatMap gO)[q]? = some u→w7.cell? (A0.add q) = some u):=by
        by_cases hc:aq = jj
        ·exact tj
        ·exact ⟨⟨g,jj * 2,none⟩,by simp [hc],rfl,fun q u hu=>by simp at hu⟩
       obtain ⟨A0,hA0,asg⟩:=ce;have bF:N - jj = (([]:List ap)).length:=(by have:=gS.out;omega);have mx:=I bF;clear bF
       go_wp2_with (
        at_builtin
        go_must (refine xW kk O _ _ O w7 wn.heap.size _ _ _ nK O A0 0 (aq - jj) ((([]:List ap)).flatMap gO) O O asg.out.2 (mR uy _) J J kF ?_)
        intro v8 w8 Le cN jC;rw [show jj+1+0 = N+1 by omega] at Le;obtain ⟨g8,p8,hv8,aJs,aJt,aJu⟩:=wW Le J
        subst hv8)
       exact Ex
     | cons z s2 =>
       have gl:jj < N:=(by have e1:=congrArg List.length HE.out;have e2:=di.out;have e3:=HJ.out;rw [List.length_append,List.length_cons] at e1;omega);have z0:wr.cell? ⟨g,jj * 2,none⟩ = some (.string z.key):=MC.out _ _ _ (kX.out (jj * 2+0) _ (by rw [HE.out];exact st (row:=gO) (S:=2) (fun _=>rfl) _ jj z tu 0 _ rfl)) eA;have z1:wr.cell? ⟨g,jj * 2+1,none⟩ = some (.string z.value):=MC.out _ _ _ (kX.out (jj * 2+1) _ (by rw [HE.out];exact st (row:=gO) (S:=2) (fun _=>rfl) _ jj z tu 1 _ rfl)) eA;have o3:decide ((jj:Int) < (N:Int)) = true:=(by simp;omega);have IS:=I (show z∈xs from qx.out z Ao);cases hL:kS fm y z with
       | false =>have HL:=I hL;have gv:=yt hL;obtain ⟨yz,hle2⟩:=gv;clear hL;exact Ei
       | true =>
         have HL:=I hL;have gv:=yv hL;have HI:=I (show OM (kS fm) y (SS) = s1++y :: (z :: s2) by rw [HE.out];exact PY s1 (z :: s2) HN.out (.inr ⟨_,_,rfl,HL.out⟩));clear hL;go_wp2_with fail
         refine aF wr U' U' (aj _) ?_
         repeat ((first | refine aG O ?_ | refine aH _ O dz ?_);simp only [Act.put,pz])
         refine aN ?_;intro wn Z;replace Z:=Z.out;have bw:Below wo.heap.size wo wn:=ah bL Z;have lw:=I (show Below w2.heap.size w2 wn from ah eN.out bw);have RJ:=mG gg.out bw;obtain ⟨_,eO,apy,V4⟩:=IE RJ
         have eo:=I (show ∀q u,(s1.flatMap gO)[q]? = some u→wn.cell? ((⟨g,0,none⟩:Addr).add q) = some u from fun q u hu=>by
          rw [Addr.add_lit,Nat.zero_add];refine V4 q u ?_
          rw [HE.out,List.flatMap_append,List.getElem?_append_left (List.getElem?_eq_some_iff.1 hu).1];exact hu)
         have Gn:=I (show ∀q u,((z :: s2).flatMap gO)[q]? = some u→wn.cell? ⟨g,jj * 2+q,none⟩ = some u from fun q u hu=>by
          refine V4 (jj * 2+q) u ?_
          rw [HE.out,List.flatMap_append,List.getElem?_append_right (by rw [kI (row:=gO) (S:=2) (fun _=>rfl),HJ.out];omega),kI (row:=gO) (S:=2) (fun _=>rfl),HJ.out,Nat.add_sub_cancel_left];exact hu)
         have dp:jj+(z :: s2).length = N:=(by have e1:=congrArg List.length HE.out;have e2:=di.out;have e3:=HJ.out;rw [List.length_append] at e1;omega);have nL:jj≤N:=J;have oe:jj≤aq:=J;have J8:¬aq = jj:=J;replace k0:=r' Z k0 en;replace k1:=r' Z k1 en;have om:b < wn.heap.size:=(by have:=Z.size;omega);have gS:=I dp;have ju:=I bw;clear RJ V4 dp bw;go_wp2_with fail
         refine zU wn 12 U' U' (aj _) ?_;refine YU (fun a0 a' w'=>∃(g9 p9:Nat) (da db dc de df dg dh dv ev ew:Value),a' = (Act.put (Act.put (Act.put (Act.put (Act.put (Act.put (Act.put (Act.put (Act.put (Act.put (Act.put (Act.put a0 (some 42) (da)) (some 43) (db)) (some 44) (dc)) (some 45) (de)) (some 46) (df)) (some 47) (dg)) (some 48) (dh)) (some 49) (dv)) (some 50) (ev)) (some 51) (ew)) (some 52) (.slice (some ⟨g9,0,none⟩) (jj+1) p9)) (some 8) (.slice (some ⟨g9,0,none⟩) (jj+1) p9))∧Below wn.heap.size wn w'∧World.ownsRow w' wn.heap.size 67 2 (.slice (some ⟨g9,0,none⟩) (jj+1) p9) (jj+1) ((s1.flatMap gO)++[.string y.key,.string y.value])) ?_ ?_;rotate_left
         ·exact D'
         intro a' w7 fb;obtain ⟨g9,p9,da,db,dc,de,df,dg,dh,dv,ev,ew,rfl,bC,nK⟩:=fb;try simp only [Act.put,pz]
         have bF:N - jj = (z :: s2).length:=(by have:=gS.out;omega);have mx:=I bF;clear bF
         go_wp2_with (
          at_builtin
          go_must (refine xW kk O _ _ O w7 wn.heap.size _ _ _ nK O ⟨g,jj * 2,none⟩ (N - jj) (aq - jj) ((z :: s2).flatMap gO) O (by rw [kI (row:=gO) (S:=2) (fun _=>rfl),mx.out]) (fun q u hu=>by rw [Addr.add_lit];exact (bC.cell (p:=⟨g,jj * 2+q,none⟩) eO).trans (Gn.out q u hu)) (mR uy _) J J kF ?_)
          intro v8 w8 Le cN jC;rw [show jj+1+(N - jj) = N+1 by omega] at Le;obtain ⟨g8,p8,hv8,aJs,aJt,aJu⟩:=wW Le J
          subst hv8)
         exact Ex
   ·have bF:k = xs.length:=J;subst bF;rw [List.take_length] at bd di;have hZ:=I (show Below w.heap.size w wr from iL.out.trans (aR.mono iL.out.size));have AD:=I aR;have cB:∀z∈bz (kS fm) [] (xs),z∈xs:=fun z hz=>QH hz;rw [← di.out] at bd;obtain ⟨A4,c4,G4,hv4,hO4⟩:=Mo (β:=ap) (row:=gO) rfl (bz (kS fm) [] (xs)) bd (fun x hx=>XK pM.out (cB x hx) wr);rw [di.out] at hv4;simp only [Value.slice.injEq,true_and] at hv4;obtain ⟨qy,fi⟩:=hv4;subst qy fi;have kC:=I (hO4.mono iL.out.size);have ly:=I (eB.oJ bd iL.out.size);have jS:=I (Jw (bz (kS fm) [] (xs)) _ N aq G4 wr hO4.rd di.out.symm (by rw [di.out];omega) (fun l hl=>Eo.out l (cB l hl)));clear aR bd hO4 cB;cases hr:sD (bz (kS fm) [] (xs)) with
    | true =>have HR:=I (WG hr);exact x3
    | false =>have HR:=I (QF hr);have uu:=I hr;clear hr;obtain ⟨A3,c3,G3,jx,hO3⟩:=am.cZ (fun {w x cs F} hh=>(vO hh).2.1) fY.out l8.out;exact xn
theorem Ri (xs:List ap) (A:Option Addr) (c:Nat) (F:List Nat) (w:World) (h:Sl w xs A c F) (hl:(xs.length:Int)≤1048576) (cP:∀l∈xs,(l.key.size:Int)≤1048576∧(l.value.size:Int)≤1048576) :
 Calls Tryz.prog 36 #[.slice A xs.length c] w fun e w'=>∃A' c' G,e = .returned (.tuple #[.slice A' (BG xs).1.length c',.bool (BG xs).2])∧am w' w.heap.size (BG xs).1 [.slice A' (BG xs).1.length c'] G∧Below w.heap.size w w' :=
 (Rh xs A c F w h hl cP).mono fun _ _ ⟨A',c',G,a,b,d,_⟩=>⟨A',c',G,a,b,d⟩
end Go.Proofs.YtajbbmembionpaaGreat
