/- SortLabels in plain Lean. No condition. -/
import Derived.Test.YtajbbmembionpaaGreatKeepP
import Derived.Test.YtajbbmembionpaaGreatCopyH
namespace Go.Proofs.YtajbbmembionpaaGreat
open Go.ChangeShapes Go.WideShapes Go.ChangeAt Go.RowKit
set_option linter.unusedVariables false
set_option linter.unusedSimpArgs false
set_option maxHeartbeats 8000000
set_option maxRecDepth 100000
def eQ (x y:ao):Int:=Lib.compareBytes x.key.data.toList y.key.data.toList
theorem tf:lZ (kS eQ):=(uF.at ao.key).MX
def BG (xs:List ao):List ao × Bool:=if sD (bz (kS eQ) [] xs) = true then (bz (kS eQ) [] xs,true) else (xs,false)
theorem Sh {xs:List ao} (h:sD (bz (kS eQ) [] xs) = true):BG xs = (bz (kS eQ) [] xs,true):=if_pos h
theorem Sk {xs:List ao} (h:sD (bz (kS eQ) [] xs) = false):BG xs = (xs,false):=if_neg (by rw [h];simp)
theorem Sm {lt:ao→ao→Bool} {z:ao} : ∀(ys acc:List ao),z∈bz lt acc ys→z∈acc∨z∈ys
 | [],acc,h=>.inl h
 | y :: ys,acc,h=>by
   rw [bz] at h;rcases Sm ys _ h with h | h
   ·exact Ej
   ·exact .inr (List.mem_cons_of_mem _ h)
theorem Sn {xs:List ao} {z:ao} (h:z∈bz (kS eQ) [] xs):z∈xs:=by
 rcases Sm xs [] h with h | h
 ·cases h
 ·exact h
theorem Sp (xs:List ao):(bz (kS eQ) [] xs).length = xs.length:=by rw [rD];simp
theorem Sq {lt:ao→ao→Bool} (f:ao→Nat) (y:ao):∀r:List ao,((OM lt y r).map f).sum = f y+(r.map f).sum
 | []=>by simp [OM]
 | x :: r=>by
   have:=Sq (lt:=lt) f y r;unfold OM;split <;> simp only [List.map_cons,List.sum_cons] <;> omega
theorem Ss {lt:ao→ao→Bool} (f:ao→Nat):∀xs acc:List ao,((bz lt acc xs).map f).sum = (acc.map f).sum+(xs.map f).sum
 | [],_=>by simp [bz]
 | x :: xs,acc=>by
   have Z:=Ss (lt:=lt) f xs (OM lt x acc);have h2:=Sq (lt:=lt) f x acc;rw [bz,Z,h2];exact px
theorem St (xs:List ao):kL ao.wt (BG xs).1 = kL ao.wt xs:=by
 have h:=Ss (lt:=kS eQ) ao.wt xs [];have hl:=Sp xs;unfold BG kL;split
 ·dsimp only;simp only [List.map_nil,List.sum_nil] at h;omega
 ·rfl
def vf (x:aU) (p:nI) (a b:ByteArray):List Int:=[Lib.compareInt (uH b x p) (uH a x p),Lib.compareBytes a.data.toList b.data.toList]
def CV (x:aU) (p:nI) (a b:ByteArray):Int:=Qa (vf x p a b)
def Jh (x:aU) (p:nI):List ByteArray:=bz (kS (CV x p)) [] (Ar x p x.V)
theorem ak2 (x:aU) (p:nI) (a b:ByteArray):kS (CV x p) a b = true↔uH b x p < uH a x p∨(uH a x p = uH b x p∧Op.bytesLess a.data.toList b.data.toList = true):=by
 have e:=Wx a.data.toList b.data.toList;unfold kS CV vf Qa Qa;rw [decide_eq_true_eq,← e];unfold Lib.compareInt;by_cases Z:uH b x p < uH a x p
 ·simp [Z]
 ·by_cases h2:uH a x p < uH b x p
  ·simp [Z,h2];omega
  ·have h3:uH a x p = uH b x p:=J;simp [h3,Qa];by_cases h4:Lib.compareBytes a.data.toList b.data.toList = 0
   ·simp [h4]
   ·simp [h4]
theorem OR {β:Type} {lt:β→β→Bool} {z:β} : ∀(ys acc:List β),z∈bz lt acc ys→z∈acc∨z∈ys
 | [],acc,h=>.inl h
 | y :: ys,acc,h=>by
   rw [bz] at h;rcases OR ys _ h with h | h
   ·exact Ej
   ·exact .inr (List.mem_cons_of_mem _ h)
theorem VZ (w:World):∀ys:List ByteArray,(∀y∈ys,y.size≤maxLen)→jo w ys (ys.map Value.string) []
 | [],_=>⟨rfl,rfl⟩
 | y :: ys,h=>⟨[.string y],ys.map Value.string,[],[],rfl,rfl,⟨rfl,rfl,h y (List.mem_cons_self ..)⟩,VZ w ys fun z hz=>h z (List.mem_cons_of_mem _ hz)⟩
theorem ML {w:World} : ∀(ys:List ByteArray) (ds:List Value) (G:List Nat),jo w ys ds G→ds = ys.map Value.string∧G = []∧∀y∈ys,y.size≤maxLen
 | [],ds,G,h=>⟨h.1,h.2,fun _ h=>by cases h⟩
 | y :: ys,ds,G,h=>by
   obtain ⟨c1,c2,F1,F2,rfl,rfl,Z,h2⟩:=h;obtain ⟨e1,e2,Z⟩:=Z;subst e1 e2;obtain ⟨e3,e4,h3⟩:=ML ys c2 F2 h2;subst e3 e4;refine ⟨rfl,rfl,fun z hz=>?_⟩;rcases List.mem_cons.1 hz with rfl | hz
   ·exact Z
   ·exact h3 z hz
theorem ac6 (x:aU) (p:nI):(Jh x p).length = (Ar x p x.V).length:=by unfold Jh;rw [rD];simp
theorem aDt:(Tryz.prog.info? 67).map (fun i=>(i.zero,i.size,i.bytes)) = some (some (.agg #[.string ⟨#[]⟩,.string ⟨#[]⟩]),2,32):=by kernel_rfl
theorem km:DL Tryz.prog 31 67 (.agg #[.string ⟨#[]⟩,.string ⟨#[]⟩]) 2 32:=⟨Tryz.underlying31,aDt,rfl,J⟩
theorem aBD {w:World} {xs:List ao} (h:∀x∈xs,rd w x (gM x) []) {x:ao} (hx:x∈xs) (w':World):rd w' x (gM x) []:=by
 obtain ⟨h0,Z,h2,h3⟩:=vO (h x hx);exact Fo w' x h2 h3
theorem yz {y z:ao} (h:kS eQ y z = false):(Op.bytesLess z.key.toList y.key.toList || z.key.toList == y.key.toList) = true∧(Op.bytesLess y.key.toList z.key.toList) = false:=by
 have Z:¬eQ y z < 0:=by simpa [kS] using h
 have h2:eQ z y = - eQ y z:=M0.fu _ _;have hh:Op.bytesLess y.key.toList z.key.toList = false:=by
  cases U:Op.bytesLess y.key.toList z.key.toList with
  | false=>rfl
  | true =>rw [← Wx,ByteArray.toList_eq,ByteArray.toList_eq] at U;exact absurd U Z
 refine ⟨?_,hh⟩;by_cases h3:eQ y z = 0
 ·have:=(J5 _ _).1 h3;rw [ByteArray.toList_eq,ByteArray.toList_eq,this];simp
 ·have h4:eQ z y < 0:=by omega
  have:=(Wx _ _).1 h4;rw [ByteArray.toList_eq,ByteArray.toList_eq,this];rfl
theorem yI {y z:ao} (h:kS eQ y z = true):(Op.bytesLess z.key.toList y.key.toList || z.key.toList == y.key.toList) = false:=by
 have Z:eQ y z < 0:=by simpa [kS] using h
 have h2:eQ z y = - eQ y z:=M0.fu _ _;rw [Bool.or_eq_false_iff];constructor
 ·cases U:Op.bytesLess z.key.toList y.key.toList with
  | false=>rfl
  | true =>rw [← Wx,ByteArray.toList_eq,ByteArray.toList_eq] at U;have:eQ z y < 0:=U;omega
 ·cases U:(z.key.toList == y.key.toList) with
  | false=>rfl
  | true =>rw [beq_iff_eq,ByteArray.toList_eq,ByteArray.toList_eq] at U;have:eQ z y = 0:=(J5 _ _).2 U;omega
theorem aBE {xs:List ao} (h:sD xs = true):xs.length≤6:=by
 unfold sD l0 at h;exact sT
theorem S9 (xs:List ao) (A:Option Addr) (c:Nat) (F:List Nat) (w:World) (h:Sl w xs A c F) (hl:(xs.length:Int)≤1048576) (cW:∀l∈xs,(l.key.size:Int)≤1048576∧(l.value.size:Int)≤1048576) :
 Calls Tryz.prog 36 #[.slice A xs.length c] w fun e w'=>∃A' c' G,e = .returned (.tuple #[.slice A' (BG xs).1.length c',.bool (BG xs).2])∧am w' w.heap.size (BG xs).1 [.slice A' (BG xs).1.length c'] G∧Below w.heap.size w w'∧((BG xs).2 = true→eE w' w.heap.size 67 2 A' c'):=by
 have Eo:=I cW;clear cW
 have pH:=I (show ∀x∈xs,rd w x (gM x) [] from fun x hx=>by
  obtain ⟨k,hk,rfl⟩:=List.getElem_of_mem hx;obtain ⟨b,o,ck,Fk,_,_,_,hr,_,_⟩:=h.get hk;have h2:=vO hr;rw [h2.1,h2.2.1] at hr
  exact hr)
 go_enter Tryz.func36,Tryz.ntmps36
 go_wp2_with (
  at_builtin
  go_must (refine rW km M M _ _ M (w.alloc (.cells #[] 67)) w.heap.size _ 0 [] (D9 w 67 2 w.heap.size rfl) M xs A c F (h.ext (ak (aj _) _)) M J J S' ?_)
  intro v2 w2 ds G dz bA bi hg dt;go_must (obtain ⟨A2,c2,gj⟩:=mY bi)
  go_must (subst gj)
  go_must (have aq:Below w.heap.size w w2:=lS (World.ownsRow_made (e:=67) (size:=2) w #[] 0 (Nat.le_refl _) (Nat.zero_le _) S') hg (ak (aj _) _) S'))
 all_goals
  simp only [Nat.zero_add,List.nil_append] at bi;try simp only [Nat.zero_add]
 ·have pv:¬xs.length≤6:=by omega
  have HR:=I (Sk (by cases hh:sD (bz (kS eQ) [] xs) with
  | false=>rfl
  | true=>have:=aBE hh;rw [Sp] at this;omega))
  have pl:jo w2 xs ds G:=dz.frame (fun b U=>hg.block b (dz.lt b U) (fun e=>by have Z:=h.lt b (bA b U);simp [Value.ownBlock] at e;omega)) hg.size;obtain ⟨A3,c3,G3,kk,hO3⟩:=am.de (fun {w x cs F} hh=>(vO hh).2.1) bi pl;exact xw
 ·have pv:xs.length≤6:=by omega
  have l6:=I (show jo w2 xs ds G from dz.frame (fun b U=>hg.block b (dz.lt b U) (fun e=>by have Z:=h.lt b (bA b U);simp [Value.ownBlock] at e;omega)) hg.size);have f9:=I bi;have kn:=I aq;have cR:Sl w2 xs A c F:=h.ext aq;clear bi dz hg dt bA aq;go_wp2_with fail
  go_loopw [5,6] (fun v i wr=>∃k N g ar:Nat,k≤xs.length∧N≤k∧i = .int .i64 (k:Int)∧v = .slice (some ⟨g,0,none⟩) N ar∧Hid ((bz (kS eQ) [] (xs.take k)).length = N)∧wr.ownsRow w2.heap.size 67 2 (.slice (some ⟨g,0,none⟩) N ar) N ((bz (kS eQ) [] (xs.take k)).flatMap gM)∧Below w2.heap.size w2 wr) (fun _ i _=>xs.length - (intOf i).toNat)
  case atStart=>exact ⟨0,0,w2.heap.size,0,J,Nat.le_refl _,rfl,rfl,I rfl,D9 w2 67 2 w2.heap.size rfl,ak (aj _) _⟩
  case round =>
   obtain ⟨k,N,g,ar,hk,hNk,rfl,rfl,dr,bk,aK⟩:=hrel;by_cases av:k < xs.length
   ·obtain ⟨wo,hwo⟩:∃wo,wo = wr:=⟨_,rfl⟩;subst hwo;obtain ⟨b,o,ck,Fk,hA,hbG,hbs,aJe,_,hcells⟩:=Sl.get cR av;subst hA;have qh:xs[k]∈xs:=List.getElem_mem ..;have fq:bz (kS eQ) [] (xs.take (k+1)) = OM (kS eQ) xs[k] (bz (kS eQ) [] (xs.take k)):=(by rw [List.take_succ_eq_append_getElem av,V3]);obtain ⟨y,hy⟩:∃y,xs[k] = y:=⟨_,rfl⟩;rw [hy] at aJe qh fq;obtain ⟨aD,_⟩:=vO aJe;subst aD;have k0:wo.cell? ⟨b,o+k * 2,none⟩ = some (.string y.key):=r' aK (by have:=hcells 0 _ rfl;rwa [show o+(k * bb.size ao+0) = o+k * 2 by show o+(k * 2+0) = _;omega] at this) hbs;have k1:wo.cell? ⟨b,o+k * 2+1,none⟩ = some (.string y.value):=r' aK (by have:=hcells 1 _ rfl;rwa [show o+(k * bb.size ao+1) = o+k * 2+1 by show o+(k * 2+1) = _;omega] at this) hbs;have Jf:=I fq;have Kt:=I qh;clear hcells hy fq qh;have qi:=I (show ∀z∈bz (kS eQ) [] (xs.take k),z∈xs from fun z hz=>List.mem_of_mem_take (Sn hz));generalize bz (kS eQ) [] (xs.take k) = SS at *;obtain ⟨pu,fe,nW,hgc⟩:=IE bk;have Lg:w2.heap.size≤wo.heap.size:=aK.size;have eR:b < wo.heap.size:=J;have kO:=I hgc;have gY:=I bk;have eW:=I aK;clear hgc bk aK;go_wp2_with fail
    go_loopw [7] (fun j wr=>∃(s1 s2:List ao) (jj:Nat),Hid (SS = s1++s2)∧j = .int .i64 (jj:Int)∧Hid (s1.length = jj)∧Hid (∀z∈s1,kS eQ y z = false)∧Below wo.heap.size wo wr) (fun j _=>N - (intOf j).toNat)
    case atStart=>exact ⟨[],SS,0,I rfl,rfl,I rfl,I (fun z hz=>by cases hz),aj _⟩
    case round =>
     obtain ⟨s1,s2,jj,HE,rfl,HJ,HN,bN⟩:=hrel;have mc:∀bq oq u,wo.cell? ⟨bq,oq,none⟩ = some u→bq < wo.heap.size→wr.cell? ⟨bq,oq,none⟩ = some u:=fun bq oq u Z h2=>(bN.cell (p:=⟨bq,oq,none⟩) h2).trans Z;replace k0:=mc _ _ _ k0 eR;replace k1:=mc _ _ _ k1 eR;have MC:=I mc;have lz:wo.heap.size≤wr.heap.size:=bN.size;have mK:b < wr.heap.size:=J;have lv:g < wr.heap.size:=J;clear mc;cases s2 with
     | nil =>
       have fV:jj = N:=(by have e1:=HE.out;have e2:=dr.out;have e3:=HJ.out;rw [e1,List.append_nil] at e2;omega);have oV:N≤jj:=J;have oW:decide ((jj:Int) < (N:Int)) = false:=(by simp;omega);have oX:decide (jj < N) = false:=(by simp;omega);clear fV;have HI:=I (show OM (kS eQ) y (SS) = s1++y :: [] by rw [HE.out];exact PY s1 [] HN.out (.inl rfl));go_wp2_with fail
       refine aF wr U' U' (aj _) ?_
       repeat ((first | refine aG M ?_ | refine aH _ M d8 ?_);simp only [Act.put,pz])
       refine aN ?_;intro wn X;replace X:=X.out;have bx:Below wo.heap.size wo wn:=ah bN X;have lp:=I (show Below w2.heap.size w2 wn from ah eW.out bx);have RJ:=mG gY.out bx;obtain ⟨_,eZ,apy,V4⟩:=IE RJ
       have ev:=I (show ∀q u,(s1.flatMap gM)[q]? = some u→wn.cell? ((⟨g,0,none⟩:Addr).add q) = some u from fun q u hu=>by
        rw [Addr.add_lit,Nat.zero_add];refine V4 q u ?_
        rw [HE.out,List.flatMap_append,List.getElem?_append_left (List.getElem?_eq_some_iff.1 hu).1];exact hu)
       have Gn:=I (show ∀q u,((([]:List ao)).flatMap gM)[q]? = some u→wn.cell? ⟨g,jj * 2+q,none⟩ = some u from fun q u hu=>by
        refine V4 (jj * 2+q) u ?_
        rw [HE.out,List.flatMap_append,List.getElem?_append_right (by rw [kC (row:=gM) (S:=2) (fun _=>rfl),HJ.out];omega),kC (row:=gM) (S:=2) (fun _=>rfl),HJ.out,Nat.add_sub_cancel_left];exact hu)
       have dv:jj+(([]:List ao)).length = N:=(by have e1:=congrArg List.length HE.out;have e2:=dr.out;have e3:=HJ.out;rw [List.length_append] at e1;omega);have nz:jj≤N:=J;have nZ:jj≤ar:=J;replace k0:=r' X k0 eu;replace k1:=r' X k1 eu;have mv:b < wn.heap.size:=(by have:=X.size;omega);have gU:=I dv;have ia:=I bx;clear RJ V4 dv bx;go_wp2_with fail
       refine zU wn 12 U' U' (aj _) ?_;refine YU (fun a0 a' w'=>∃(g9 p9:Nat) (df dg dh di dj dk dl dC ez eA:Value),a' = (Act.put (Act.put (Act.put (Act.put (Act.put (Act.put (Act.put (Act.put (Act.put (Act.put (Act.put (Act.put a0 (some 42) (df)) (some 43) (dg)) (some 44) (dh)) (some 45) (di)) (some 46) (dj)) (some 47) (dk)) (some 48) (dl)) (some 49) (dC)) (some 50) (ez)) (some 51) (eA)) (some 52) (.slice (some ⟨g9,0,none⟩) (jj+1) p9)) (some 8) (.slice (some ⟨g9,0,none⟩) (jj+1) p9))∧Below wn.heap.size wn w'∧World.ownsRow w' wn.heap.size 67 2 (.slice (some ⟨g9,0,none⟩) (jj+1) p9) (jj+1) ((s1.flatMap gM)++[.string y.key,.string y.value])) ?_ ?_;rotate_left
       ·exact EE
       intro a' w7 fj;obtain ⟨g9,p9,df,dg,dh,di,dj,dk,dl,dC,ez,eA,rfl,bF,nK⟩:=fj;try simp only [Act.put,pz]
       have cL:∃A0:Addr,(if ar = jj then some (⟨g,0,none⟩:Addr) else some ⟨g,jj * 2,none⟩) = some A0∧Hid (A0.block = g∧∀q u,((([]:List ao)).flatMap gM)[q]? = some u→w7.cell? (A0.add q) = some u):=by
        by_cases hc:ar = jj
        ·exact sP
        ·exact ⟨⟨g,jj * 2,none⟩,by simp [hc],rfl,fun q u hu=>by simp at hu⟩
       obtain ⟨A0,hA0,asg⟩:=cL;have bI:N - jj = (([]:List ao)).length:=(by have:=gU.out;omega);have mn:=I bI;clear bI
       go_wp2_with (
        at_builtin
        go_must (refine xW km M _ _ M w7 wn.heap.size _ _ _ nK M A0 0 (ar - jj) ((([]:List ao)).flatMap gM) M M asg.out.2 (mI ux _) J J kB ?_)
        intro v8 w8 Le cU jA;rw [show jj+1+0 = N+1 by omega] at Le;obtain ⟨g8,p8,hv8,aJs,aJt,aJu⟩:=wW Le J
        subst hv8)
       exact E6
     | cons z s2 =>
       have fV:jj < N:=(by have e1:=congrArg List.length HE.out;have e2:=dr.out;have e3:=HJ.out;rw [List.length_append,List.length_cons] at e1;omega);have z0:wr.cell? ⟨g,jj * 2,none⟩ = some (.string z.key):=MC.out _ _ _ (kO.out (jj * 2+0) _ (by rw [HE.out];exact r9 (row:=gM) (S:=2) (fun _=>rfl) _ jj z s8 0 _ rfl)) fe;have z1:wr.cell? ⟨g,jj * 2+1,none⟩ = some (.string z.value):=MC.out _ _ _ (kO.out (jj * 2+1) _ (by rw [HE.out];exact r9 (row:=gM) (S:=2) (fun _=>rfl) _ jj z s8 1 _ rfl)) fe;have oW:decide ((jj:Int) < (N:Int)) = true:=(by simp;omega);have Ks:=I (show z∈xs from qi.out z AS);cases hL:kS eQ y z with
       | false =>have HL:=I hL;have gL:=yz hL;obtain ⟨yJ,hle2⟩:=gL;clear hL;exact EN
       | true =>
         have HL:=I hL;have gL:=yI hL;have HI:=I (show OM (kS eQ) y (SS) = s1++y :: (z :: s2) by rw [HE.out];exact PY s1 (z :: s2) HN.out (.inr ⟨_,_,rfl,HL.out⟩));clear hL;go_wp2_with fail
         refine aF wr U' U' (aj _) ?_
         repeat ((first | refine aG M ?_ | refine aH _ M d8 ?_);simp only [Act.put,pz])
         refine aN ?_;intro wn X;replace X:=X.out;have bx:Below wo.heap.size wo wn:=ah bN X;have lp:=I (show Below w2.heap.size w2 wn from ah eW.out bx);have RJ:=mG gY.out bx;obtain ⟨_,eZ,apy,V4⟩:=IE RJ
         have ev:=I (show ∀q u,(s1.flatMap gM)[q]? = some u→wn.cell? ((⟨g,0,none⟩:Addr).add q) = some u from fun q u hu=>by
          rw [Addr.add_lit,Nat.zero_add];refine V4 q u ?_
          rw [HE.out,List.flatMap_append,List.getElem?_append_left (List.getElem?_eq_some_iff.1 hu).1];exact hu)
         have Gn:=I (show ∀q u,((z :: s2).flatMap gM)[q]? = some u→wn.cell? ⟨g,jj * 2+q,none⟩ = some u from fun q u hu=>by
          refine V4 (jj * 2+q) u ?_
          rw [HE.out,List.flatMap_append,List.getElem?_append_right (by rw [kC (row:=gM) (S:=2) (fun _=>rfl),HJ.out];omega),kC (row:=gM) (S:=2) (fun _=>rfl),HJ.out,Nat.add_sub_cancel_left];exact hu)
         have dv:jj+(z :: s2).length = N:=(by have e1:=congrArg List.length HE.out;have e2:=dr.out;have e3:=HJ.out;rw [List.length_append] at e1;omega);have nz:jj≤N:=J;have nZ:jj≤ar:=J;have yK:¬ar = jj:=J;replace k0:=r' X k0 eu;replace k1:=r' X k1 eu;have mv:b < wn.heap.size:=(by have:=X.size;omega);have gU:=I dv;have ia:=I bx;clear RJ V4 dv bx;go_wp2_with fail
         refine zU wn 12 U' U' (aj _) ?_;refine YU (fun a0 a' w'=>∃(g9 p9:Nat) (df dg dh di dj dk dl dC ez eA:Value),a' = (Act.put (Act.put (Act.put (Act.put (Act.put (Act.put (Act.put (Act.put (Act.put (Act.put (Act.put (Act.put a0 (some 42) (df)) (some 43) (dg)) (some 44) (dh)) (some 45) (di)) (some 46) (dj)) (some 47) (dk)) (some 48) (dl)) (some 49) (dC)) (some 50) (ez)) (some 51) (eA)) (some 52) (.slice (some ⟨g9,0,none⟩) (jj+1) p9)) (some 8) (.slice (some ⟨g9,0,none⟩) (jj+1) p9))∧Below wn.heap.size wn w'∧World.ownsRow w' wn.heap.size 67 2 (.slice (some ⟨g9,0,none⟩) (jj+1) p9) (jj+1) ((s1.flatMap gM)++[.string y.key,.string y.value])) ?_ ?_;rotate_left
         ·exact EE
         intro a' w7 fj;obtain ⟨g9,p9,df,dg,dh,di,dj,dk,dl,dC,ez,eA,rfl,bF,nK⟩:=fj;try simp only [Act.put,pz]
         have bI:N - jj = (z :: s2).length:=(by have:=gU.out;omega);have mn:=I bI;clear bI
         go_wp2_with (
          at_builtin
          go_must (refine xW km M _ _ M w7 wn.heap.size _ _ _ nK M ⟨g,jj * 2,none⟩ (N - jj) (ar - jj) ((z :: s2).flatMap gM) M (by rw [kC (row:=gM) (S:=2) (fun _=>rfl),mn.out]) (fun q u hu=>by rw [Addr.add_lit];exact (bF.cell (p:=⟨g,jj * 2+q,none⟩) eZ).trans (Gn.out q u hu)) (mI ux _) J J kB ?_)
          intro v8 w8 Le cU jA;rw [show jj+1+(N - jj) = N+1 by omega] at Le;obtain ⟨g8,p8,hv8,aJs,aJt,aJu⟩:=wW Le J
          subst hv8)
         exact E6
   ·have bI:k = xs.length:=J;subst bI;rw [List.take_length] at bk dr;have sH:=I (show Below w.heap.size w wr from kn.out.trans (aK.mono kn.out.size));have AT:=I aK;have cG:∀z∈bz (kS eQ) [] (xs),z∈xs:=fun z hz=>Sn hz;rw [← dr.out] at bk;obtain ⟨A4,c4,G4,hv4,hO4⟩:=NI (β:=ao) (row:=gM) rfl (bz (kS eQ) [] (xs)) bk (fun x hx=>aBD pH.out (cG x hx) wr);rw [dr.out] at hv4;simp only [Value.slice.injEq,true_and] at hv4;obtain ⟨qk,fa⟩:=hv4;subst qk fa;have kz:=I (hO4.mono kn.out.size);have lr:=I (eE.oJ bk kn.out.size);have il:=I (Jw (bz (kS eQ) [] (xs)) _ N ar G4 wr hO4.rd dr.out.symm (by rw [dr.out];omega) (fun l hl=>Eo.out l (cG l hl)));clear aK bk hO4 cG;cases hr:sD (bz (kS eQ) [] (xs)) with
    | true =>have HR:=I (Sh hr);exact x9
    | false =>have HR:=I (Sk hr);have ut:=I hr;clear hr;obtain ⟨A3,c3,G3,kk,hO3⟩:=am.de (fun {w x cs F} hh=>(vO hh).2.1) f9.out l6.out;exact xo
theorem Ta (xs:List ao) (A:Option Addr) (c:Nat) (F:List Nat) (w:World) (h:Sl w xs A c F) (hl:(xs.length:Int)≤1048576) (cW:∀l∈xs,(l.key.size:Int)≤1048576∧(l.value.size:Int)≤1048576) :
 Calls Tryz.prog 36 #[.slice A xs.length c] w fun e w'=>∃A' c' G,e = .returned (.tuple #[.slice A' (BG xs).1.length c',.bool (BG xs).2])∧am w' w.heap.size (BG xs).1 [.slice A' (BG xs).1.length c'] G∧Below w.heap.size w w' :=
 (S9 xs A c F w h hl cW).mono fun _ _ ⟨A',c',G,a,b,d,_⟩=>⟨A',c',G,a,b,d⟩
end Go.Proofs.YtajbbmembionpaaGreat
