/- DrawPodNormal: a pod that may be wrong, its rows turned. No condition. -/
import Derived.Test.YtajbbmembionpaaGreatDrawA5
namespace Go.Proofs.YtajbbmembionpaaGreat
open Go.ChangeShapes Go.WideShapes Go.ChangeAt Go.RowKit
set_option linter.unusedVariables false
set_option linter.unusedSimpArgs false
set_option maxHeartbeats 4000000
set_option maxRecDepth 100000
theorem Sl.tail {α:Type} [bc α] {w:World} {xs:List α} {A:Option Addr} {c:Nat} {F:List Nat} (h:Sl w xs A c F) (hl:1 < xs.length) :
 ∃b o F',A = some ⟨b,o,none⟩∧(∀y∈F',y∈F)∧Sl w xs.tail (some ⟨b,o+bc.size α,none⟩) (c - 1) F'∧xs.length≤c:=by
 cases xs with
 | nil=>simp at hl
 | cons x xs =>
   obtain ⟨A',c',G,ds,e0,h1,h2,hc,h0⟩:=h;simp only [List.cons.injEq,Value.slice.injEq,and_true,true_and] at e0;obtain ⟨rfl,rfl⟩:=e0;rcases h0 with ⟨h3,_⟩ | ⟨b,o',hA,rfl,X,bE⟩
   ·cases h3
   ·obtain ⟨c1,c2,F1,F2,rfl,rfl,hr,cq⟩:=hc;refine ⟨b,o',b :: F2,hA,fun y hy=>?_,⟨_,_,F2,c2,rfl,?_,?_,cq,.inr ⟨b,_,rfl,rfl,X,fun j u hu=>?_⟩⟩,h1⟩
    ·rcases List.mem_cons.1 hy with rfl | hy
     ·exact List.mem_cons_self
     ·exact List.mem_cons_of_mem _ (List.mem_append_right _ hy)
    ·simp only [List.length_cons,List.tail_cons] at *;omega
    ·omega
    ·have hlc:=bc.len hr;have:=bE (c1.length+j) u (by rw [List.getElem?_append_right J,Nat.add_sub_cancel_left];exact hu);rwa [hlc,← Nat.add_assoc] at this
theorem cr {α:Type} [bc α] {P:Program} {t e:TypeId} {z:Value} {size bytes:Nat} (hE:DL P t e z size bytes) (hd:bc.size α = size) {o:Oper} {a:Act} {K:Act→World→Prop} {Q:Exit→Act→World→Prop} (s x:Operand)
 (ho:o.op = .call { callee:=.builtin .append,args:=#[s,x],argTypes:=#[t,t] })
 (w:World) (base:Nat) (v:Value) (n:Nat) (xs:List Value) (bk:w.ownsRow base e size v n xs) (hs:a.eval s = v)
 (ys:List α) (ad:Addr) (c m:Nat) (F:List Nat) (l5:Sl w ys (some ad) c F) (hm:ys.length = m) (hx:a.eval x = .slice (some ad) m c)
 (Z:n+ys.length≤2097152) (mU:bytes≤4096) (dk:base≤w.heap.size)
 (h:∀v' w' ds G,jo w ys ds G→(∀b∈G,b∈F)→w'.ownsRow base e size v' (n+ys.length) (xs++ds)→w.grownBy w' v.ownBlock→(v'.ownBlock = v.ownBlock∨v'.ownBlock = some w.heap.size)→K (a.put o.dst v') w'):o.wp P a w K Q:=by
 subst hd;subst hm;obtain ⟨ht,hi0,lB,gT⟩:=hE;obtain ⟨i,hi,hz,hsize,X⟩:=info_parts hi0;have i7:(n+ys.length) * bytes≤2097152 * 4096:=Nat.mul_le_mul Z mU;obtain ⟨A',c',G,ds,e0,h1,h2,hc,h0⟩:=l5;simp only [List.cons.injEq,Value.slice.injEq,and_true,true_and] at e0;obtain ⟨rfl,rfl⟩:=e0;have hG:∀b∈G,b∈F:=by
  exact DS
 have bE:∀j u,ds[j]? = some u→w.cell? (ad.add j) = some u:=by
  intro j u hu;rcases h0 with ⟨rfl,rfl⟩ | ⟨b,o',hA,rfl,X,bE⟩
  ·obtain ⟨rfl,rfl⟩:=hc;simp at hu
  ·simp only [Option.some.injEq] at hA;subst hA;exact DZ
 obtain ⟨v',w',hr,g2,g3,g4,g5⟩:=run_append_own_at (P:=P) w base t o.type e i z (bc.size α) bytes ht hi hz hsize X lB gT v n xs bk ad ys.length c ds hc.len bE hc.one kD J dk;unfold Oper.wp execOp;simp only [ho,resolve,invoke,builtin,Sem.run_bind,Sem.run_pure,Result.andThen_ok,List.map_toArray,List.map_cons,List.map_nil,hs,hx,hr];exact h v' w' ds G hc hG g2 g3 g5
theorem Sl.mO {α:Type} [bc α] {w:World} {B:Nat} {xs:List α} {ds:List Value} {G:List Nat} {e:TypeId} {v:Value} (h0:w.ownsRow B e (bc.size α) v xs.length ds) (h:jo w xs ds G) :
 ∃A c F,v = .slice A xs.length c∧Sl w xs A c F∧∀y∈F,y∈G∨v.ownBlock = some y:=by
 rcases h0 with ⟨hl,⟨rfl,Z⟩ | ⟨g,aq,dx,rfl,X,hh,gv,hm,cb,ht⟩⟩
 ·obtain rfl:xs = []:=List.eq_nil_of_length_eq_zero Z;exact ⟨none,0,[],rfl,Sl.nil w none 0 (Nat.zero_le _),fun y hy=>by cases hy⟩
 ·have hg:g < w.heap.size:=by
   exact xz
  refine ⟨_,aq,g :: G,rfl,⟨_,aq,G,ds,rfl,gv,hm,h,.inr ⟨g,0,rfl,rfl,hg,fun j u hu=>?_⟩⟩,fun y hy=>?_⟩
  ·exact xo
  ·rcases List.mem_cons.1 hy with rfl | hy
   ·exact .inr rfl
   ·exact .inl hy
theorem Sl.one {α:Type} [bc α] {w:World} {x:α} {b:Nat} {cs:List Value} {F:List Nat} (hr:rd w x cs F) (X:oG w b cs):Sl w [x] (some ⟨b,0,none⟩) 1 (b :: F) :=
 ⟨_,1,F,cs,rfl,Nat.le_refl _,by unfold maxLen;omega,by have:=jo.single hr;exact this,.inr ⟨b,0,rfl,rfl,X.lt,fun j u hu=>by rw [Nat.zero_add];exact X.cell hu⟩⟩
theorem jo.bs {α:Type} [bc α] {w w':World} {xs:List α} {ds:List Value} {G:List Nat} (h:jo w xs ds G) (X:Below w.heap.size w w'):jo w' xs ds G:=h.frame (fun b hm=>X.block b (h.lt b hm)) X.size
theorem r7 {α:Type} (f:α→Nat) {xs:List α} (h:0 < xs.length):kL f (xs.tail++[xs[0]]) = kL f xs:=by
 cases xs with
 | nil=>simp at h
 | cons x xs=>rw [ep];unfold kL;simp;omega
theorem gL (w:World) (A:Option Addr) (n aq:Nat) (Z:(n:Int)≤1048576) (ce:∀k,k < n→∃(g o:Nat) (v:Int),A = some ⟨g,o,none⟩∧g < w.heap.size∧w.cell? ⟨g,o+k,none⟩ = some (.int .u8 v)∧0≤v∧v≤255) :
 Calls Tryz.prog 8 #[.slice A n aq] w fun e w'=>∃(x:nI) (cs:List Value) (G:List Nat),e = .returned (.agg cs.toArray)∧rd w' x cs G∧x.wt≤2000∧Below w.heap.size w w':=by
 have HS:=I ce;clear ce;go_enter Tryz.func8,Tryz.ntmps8;go_wp2_with fail
 refine (Kj _ A n aq Z (fun k hk=>?_)).mono ?_
 ·exact DO
 rintro e w1 ⟨c,rfl,hc,H1,bo⟩;have cE:=bo.size;simp at cE hc;have HX:=I ((oG.new w [.string ⟨#[]⟩,.slice none 0 0,.int .i64 0,.int .i64 0,.int .i64 0,.slice none 0 0,.slice none 0 0] 35).ext bo);have HB:=I (ah b5 bo:Below w.heap.size w w1);have HC:=I H1;clear H1 bo HS;go_wp2_with fail
 refine (mn _ c A n aq HC.out).mono ?_;rintro e w2 ⟨x,cs,G,rfl,hG,hw,H2,bN⟩;obtain ⟨nm,ls,ca,me,ra,ns,ts⟩:=x;obtain ⟨Al,cl,Gl,An,cn,Gn,At,ct,Gt,aE,hl,hnd,ht,gF,mC,e9,jh⟩:=hG.mi;dsimp only at aE hl hnd ht gF mC e9 jh;subst aE;have HI:=I (And.intro gF (And.intro mC (And.intro e9 jh)));have HW:=I (show nm.size+kL ap.wt ls+kL aM.wt ns+kL bH.wt ts≤2000 from hw);have Bp:=bN.size;have K3:=I ((HX.out.bR bN J).ext (ak (aj _) (.cells ([.string nm,.slice Al ls.length cl,.int .i64 ca,.int .i64 me,.int .i64 ra,.slice An ns.length cn,.slice At ts.length ct]:List Value).toArray 35)));have jK:=I (oG.new w2 [.string nm,.slice Al ls.length cl,.int .i64 ca,.int .i64 me,.int .i64 ra,.slice An ns.length cn,.slice At ts.length ct] 35);have pn:=I (ak (HB.out.trans (bN.aD (B:=w.heap.size) (fun b X=>by rw [List.mem_singleton] at X;omega) J)) (.cells ([.string nm,.slice Al ls.length cl,.int .i64 ca,.int .i64 me,.int .i64 ra,.slice An ns.length cn,.slice At ts.length ct]:List Value).toArray 35));have Hz:=I ((hl.ext (ak (aj _) (.cells ([.string nm,.slice Al ls.length cl,.int .i64 ca,.int .i64 me,.int .i64 ra,.slice An ns.length cn,.slice At ts.length ct]:List Value).toArray 35))).mono (Nat.zero_le _));have H9:=I ((hnd.ext (ak (aj _) (.cells ([.string nm,.slice Al ls.length cl,.int .i64 ca,.int .i64 me,.int .i64 ra,.slice An ns.length cn,.slice At ts.length ct]:List Value).toArray 35))).mono (Nat.zero_le _));have Ia:=I ((ht.ext (ak (aj _) (.cells ([.string nm,.slice Al ls.length cl,.int .i64 ca,.int .i64 me,.int .i64 ra,.slice An ns.length cn,.slice At ts.length ct]:List Value).toArray 35))).mono (Nat.zero_le _));have BL:=I (show ∀b∈Gl,b≠w.heap.size∧b≠w2.heap.size from fun b X=>by have h1:=hl.base b X;have h2:=hl.lt b X;omega);have BN:=I (show ∀b∈Gn,b≠w.heap.size∧b≠w2.heap.size from fun b X=>by have h1:=hnd.base b X;have h2:=hnd.lt b X;omega);have BT:=I (show ∀b∈Gt,b≠w.heap.size∧b≠w2.heap.size from fun b X=>by have h1:=ht.base b X;have h2:=ht.lt b X;omega);have my:w.heap.size < w2.heap.size:=by omega
 have Bt:w2.heap.size < (w2.alloc (.cells ([.string nm,.slice Al ls.length cl,.int .i64 ca,.int .i64 me,.int .i64 ra,.slice An ns.length cn,.slice At ts.length ct]:List Value).toArray 35)).heap.size:=by simp
 have y1:=jK.out.cell (i:=1) (u:=.slice Al ls.length cl) rfl;have cA:ls.length≤2000:=by have:=gJ ap.wt ls;have:=HW.out;omega
 have Uz:ns.length≤2000:=by have:=gJ aM.wt ns;have:=HW.out;omega
 clear hG hw H2 bN HB HX HC hl hnd ht gF mC e9 jh;go_upto_region 3 with fail
 generalize w2.alloc (.cells ([.string nm,.slice Al ls.length cl,.int .i64 ca,.int .i64 me,.int .i64 ra,.slice An ns.length cn,.slice At ts.length ct]:List Value).toArray 35) = w3 at *;by_cases iJ:1 < ls.length
 case' pos =>
  have EN:(1:Int) < ls.length:=by omega
  have ON:(0:Int) < ls.length:=by omega
  go_wp2_with fail
  obtain ⟨bl,ol,Ft,rfl,hft,ng,j8⟩:=Sl.tail (show Sl w3 ls Al cl Gl from Hz.out.rd) iJ;have zR:(ls.length:Int)≤cl:=by omega
  have d7:¬cl = 1:=by omega
  have KM:(1:Int)≤ls.length:=by omega
  have tD:0 < ls.length:=by omega
  have sg:(ls.tail++[ls[0]]).length = ls.length:=by simp;omega
  obtain ⟨b',o',ck,Fk,hA',gA,fV,jh,_,bE⟩:=(show Sl w3 ls (some ⟨bl,ol,none⟩) cl Gl from Hz.out.rd).get (k:=0) J;simp only [Option.some.injEq,Addr.mk.injEq,and_true] at hA';obtain ⟨rfl,rfl⟩:=hA';obtain ⟨aE,su,cf,kP⟩:=vO jh;subst aE su;have rt:=I jh;have rc:=I ng;have q0:w3.cell? ⟨bl,ol,none⟩ = some (.string ls[0].key):=by have:=bE 0 _ rfl;simpa using this
  have q1:w3.cell? ⟨bl,ol+1,none⟩ = some (.string ls[0].value):=by have:=bE 1 _ rfl;simpa using this
  clear ng bE jh;refine Un (fun w'=>lA w3 w') #[true,true,true,true,true,true,true,true,true,true,true,true,false] 12 U' U' (aA (aj _)) ?_;refine oC (fun a0 a' w'=>∃(A4:Option Addr) (c4:Nat) (G4:List Nat) (v0 v1 v2 v3 v4 v5 v6 v7 v8 v9 v10 v11:Value),a' = (Act.put (Act.put (Act.put (Act.put (Act.put (Act.put (Act.put (Act.put (Act.put (Act.put (Act.put (Act.put a0 (some 14) v0) (some 15) v1) (some 16) v2) (some 18) v3) (some 19) v4) (some 20) v5) (some 21) v6) (some 13) v7) (some 17) v8) (some 22) v9) (some 23) v10) (some 24) v11)∧nN [w2.heap.size] w3 w'∧oG w' w2.heap.size [.string nm,.slice A4 ls.length c4,.int .i64 ca,.int .i64 me,.int .i64 ra,.slice An ns.length cn,.slice At ts.length ct]∧cQ w' 0 (ls.tail++[ls[0]]) [.slice A4 ls.length c4] G4∧(∀b∈G4,b≠w.heap.size∧b≠w2.heap.size)) ?_ ?_;rotate_left
  ·intro HK;have aK:Below w3.heap.size w3 w3.drew:=aA (aj _)
   refine bX 1 _ O U' H' aK (Or.inl ⟨rfl,fun wq hq=>by
    have ee:=(aB hq).1;go_simp
    try rfl⟩) ?_
   try simp only [Act.put,pz]
   refine bX 2 _ O U' H' aK (Or.inl ⟨rfl,fun wq hq=>by
    have ee:=(aB hq).1;go_simp
    try rfl⟩) ?_
   try simp only [Act.put,pz]
   refine bX 3 _ O U' H' aK (Or.inl ⟨rfl,fun wq hq=>by
    have ee:=(aB hq).1;go_simp
    try rfl⟩) ?_
   try simp only [Act.put,pz]
   refine bX 5 _ O U' H' aK (Or.inl ⟨rfl,fun wq hq=>by
    have ee:=(aB hq).1;go_simp
    try rfl⟩) ?_
   try simp only [Act.put,pz]
   refine bX 6 _ O U' H' aK (Or.inl ⟨rfl,fun wq hq=>by
    have ee:=(aB hq).1;go_simp
    try rfl⟩) ?_
   try simp only [Act.put,pz]
   refine bX 7 _ O U' H' aK (Or.inl ⟨rfl,fun wq hq=>by
    have ee:=(aB hq).1;go_simp
    try rfl⟩) ?_
   try simp only [Act.put,pz]
   refine bX 8 _ O U' H' aK (Or.inl ⟨rfl,fun wq hq=>by
    have ee:=(aB hq).1;go_simp
    try rfl⟩) ?_
   try simp only [Act.put,pz]
   generalize w3.drew = wd at *;have Ff:=aK.size;have Ky:=I (rc.out.ext aK);refine jp 0 9 O O U' O O (fun K hK=>?_) (fun K hK=>?_)
   ·go_simp;have R0:=vP (D9 wd 67 2 wd.heap.size rfl) aK.size;try simp only [World.size_alloc] at R0
    replace aK:=ak aK (.cells #[] 67);refine hK _ _ aK ?_;try simp only [Act.put,pz]
    clear hK K;refine jp 4 9 O O U' O O (fun K hK=>?_) (fun K hK=>?_)
    ·refine cr kk rfl _ _ O (wd.alloc (.cells #[] 67)) w3.heap.size _ 0 [] R0 O ls.tail ⟨bl,ol+2,none⟩ (cl - 1) (ls.length - 1) Ft (rc.out.ext aK) S' O (by simp;omega) J aK.size ?_;intro v4 w4 Ae G4 sR _ R4 gM j5;have mo:=lS R0 gM aK aK.size;refine hK _ _ mo ?_;try simp only [Act.put,pz]
     clear hK K;refine cc 9 O U' O (fun K hK=>?_);go_simp;have lj:=oG.new w4 [.string ls[0].key,.string ls[0].value] 67;try simp only [World.size_alloc] at lj
     have r8:=I lj;clear lj;replace aK:=ak mo (.cells ([.string ls[0].key,.string ls[0].value]:List Value).toArray 67);refine hK _ _ aK ?_;try simp only [Act.put,pz]
     clear hK K;have uQ:=I (r8.out);refine cc 10 O U' O (fun K hK=>?_);refine cr kk rfl _ _ O (w4.alloc (.cells ([.string ls[0].key,.string ls[0].value]:List Value).toArray 67)) w3.heap.size _ (0+ls.tail.length) ([]++Ae) (R4.alloc _) O [ls[0]] ⟨w4.heap.size,0,none⟩ 1 1 [w4.heap.size] (Sl.one (aZ rt.out aK) uQ.out) rfl O (by simp;omega) J aK.size ?_;intro v6 w6 Af G6 lQ _ R6 eT fR;have ij:=lS (R4.alloc _) eT aK aK.size;exact wj
    ·go_simp;have lj:=oG.new (wd.alloc (.cells #[] 67)) [.string ls[0].key,.string ls[0].value] 67;try simp only [World.size_alloc] at lj
     have r8:=I lj;clear lj;replace aK:=ak aK (.cells ([.string ls[0].key,.string ls[0].value]:List Value).toArray 67);refine hK _ _ aK ?_;try simp only [Act.put,pz]
     clear hK K;refine cc 4 O U' O (fun K hK=>?_);refine cr kk rfl _ _ O ((wd.alloc (.cells #[] 67)).alloc (.cells ([.string ls[0].key,.string ls[0].value]:List Value).toArray 67)) w3.heap.size _ 0 [] (R0.alloc _) O ls.tail ⟨bl,ol+2,none⟩ (cl - 1) (ls.length - 1) Ft (rc.out.ext aK) S' O (by simp;omega) J aK.size ?_;intro v4 w4 Ae G4 sR _ R4 gM j5;have mo:=lS (R0.alloc _) gM aK aK.size;refine hK _ _ mo ?_;try simp only [Act.put,pz]
     clear hK K;have sI:=I (r8.out.bs (gM.block _ r8.out.lt (by intro e;simp [Value.ownBlock] at e)));replace aK:=mo;have uQ:=I (sI.out);refine cc 10 O U' O (fun K hK=>?_);refine cr kk rfl _ _ O w4 w3.heap.size _ (0+ls.tail.length) ([]++Ae) R4 O [ls[0]] ⟨(wd.heap.size+1),0,none⟩ 1 1 [(wd.heap.size+1)] (Sl.one (aZ rt.out aK) uQ.out) rfl O (by simp;omega) J aK.size ?_;intro v6 w6 Af G6 lQ _ R6 eT fR;have ij:=lS R4 eT aK aK.size;exact wj
   ·go_simp;have lj:=oG.new wd [.string ls[0].key,.string ls[0].value] 67;try simp only [World.size_alloc] at lj
    have r8:=I lj;clear lj;replace aK:=ak aK (.cells ([.string ls[0].key,.string ls[0].value]:List Value).toArray 67);refine hK _ _ aK ?_;try simp only [Act.put,pz]
    clear hK K;refine cc 0 O U' O (fun K hK=>?_);go_simp;have R0:=vP (D9 (wd.alloc (.cells ([.string ls[0].key,.string ls[0].value]:List Value).toArray 67)) 67 2 (wd.alloc (.cells ([.string ls[0].key,.string ls[0].value]:List Value).toArray 67)).heap.size rfl) aK.size;try simp only [World.size_alloc] at R0
    replace aK:=ak aK (.cells #[] 67);refine hK _ _ aK ?_;try simp only [Act.put,pz]
    clear hK K;refine cc 4 O U' O (fun K hK=>?_);refine cr kk rfl _ _ O ((wd.alloc (.cells ([.string ls[0].key,.string ls[0].value]:List Value).toArray 67)).alloc (.cells #[] 67)) w3.heap.size _ 0 [] R0 O ls.tail ⟨bl,ol+2,none⟩ (cl - 1) (ls.length - 1) Ft (rc.out.ext aK) S' O (by simp;omega) J aK.size ?_;intro v4 w4 Ae G4 sR _ R4 gM j5;have mo:=lS R0 gM aK aK.size;refine hK _ _ mo ?_;try simp only [Act.put,pz]
    clear hK K;have sI:=I ((r8.out.ext (ak (aj _) _)).bs (gM.block _ (r8.out.ext (ak (aj _) _)).lt (by intro e;simp [Value.ownBlock] at e)));replace aK:=mo;have uQ:=I (sI.out);refine cc 10 O U' O (fun K hK=>?_);refine cr kk rfl _ _ O w4 w3.heap.size _ (0+ls.tail.length) ([]++Ae) R4 O [ls[0]] ⟨wd.heap.size,0,none⟩ 1 1 [wd.heap.size] (Sl.one (aZ rt.out aK) uQ.out) rfl O (by simp;omega) J aK.size ?_;intro v6 w6 Af G6 lQ _ R6 eT fR;have ij:=lS R4 eT aK aK.size;exact wj
  rintro _ w4 ⟨A4,c4,G4,_,_,_,_,_,_,_,_,_,_,_,_,rfl,Py,hY4,hG4,uM⟩;obtain ⟨ks,gd⟩:∃ks,ks = ls.tail++[ls[0]]:=⟨_,rfl⟩;have bF:ls.length = ks.length:=by rw [gd,sg]
  have e':kL ap.wt ks = kL ap.wt ls:=by rw [gd];exact r7 _ tD
  rw [← gd] at hG4;rw [bF] at hG4 hY4;have vy:=I (K3.out.bR Py J);have kj:=I hY4;have Ib:=I hG4;have K4:=I uM;have fS:=I (pn.out.trans (Py.aD (B:=w.heap.size) (fun b X=>by rw [List.mem_singleton] at X;omega) J));have Am:=I (H9.out.bs (fun b X=>Py.block b (H9.out.lt b X) (by rw [List.mem_singleton];exact (BN.out b X).2)) Py.size);have Ic:=I (Ia.out.bs (fun b X=>Py.block b (Ia.out.lt b X) (by rw [List.mem_singleton];exact (BT.out b X).2)) Py.size);have sI:=I (show nm.size+kL ap.wt ks+kL aM.wt ns+kL bH.wt ts≤2000 by rw [e'];exact HW.out);have Wy:=Py.size;have OP:w2.heap.size < w4.heap.size:=by omega
  have y5:=kj.out.cell (i:=5) (u:=.slice An ns.length cn) rfl;clear gd bF e' hG4 hY4 uM Py K3 jK pn Hz H9 Ia BL HW y1 q0 q1 rt rc hft Wy Bt sg tD KM d7 zR ON EN j8 iJ gA fV cf kP;skip
 case' neg =>
  have EN:¬(1:Int) < ls.length:=by omega
  obtain ⟨w4,hw4⟩:∃w4,w4 = w3:=⟨_,rfl⟩;subst hw4;have vy:=K3;have kj:=jK;have Ib:=Hz;have K4:=BL;have fS:=pn;have Am:=H9;have Ic:=Ia;have sI:=HW;have OP:=Bt;have y5:=kj.out.cell (i:=5) (u:=.slice An ns.length cn) rfl;clear K3 jK pn Hz H9 Ia BL HW Bt;obtain ⟨ks,gd⟩:∃ks,ks = ls:=⟨_,rfl⟩;subst gd;obtain ⟨A4,qy⟩:∃A4,A4 = Al:=⟨_,rfl⟩;subst qy;obtain ⟨c4,fi⟩:∃c4,c4 = cl:=⟨_,rfl⟩;subst fi
 all_goals
  by_cases hnn:1 < ns.length
  ·have UA:(1:Int) < ns.length:=J;have OR:(0:Int) < ns.length:=J;have UB:∀x∈ns,(x.values.length:Int)≤1048576:=fun x hx=>by
    have h1:=Bq (f:=aM.wt) hx;have h2:=sI.out;have h3:x.wt = x.key.size+kL ByteArray.size x.values:=rfl;have h4:=gJ ByteArray.size x.values;omega
   have OS:=I UB;clear UB;go_wp2_with fail
   obtain ⟨bl,ol,Ft,rfl,hft,ng,j8⟩:=Sl.tail (show Sl w4 ns An cn Gn from Am.out.rd) hnn;have zR:(ns.length:Int)≤cn:=J;have d7:¬cn = 1:=J;have KM:(1:Int)≤ns.length:=J;have tD:0 < ns.length:=J;have sg:(ns.tail++[ns[0]]).length = ns.length:=(by simp;omega);obtain ⟨b',o',ck,Fk,hA',gA,fV,jh,su,bE⟩:=(show Sl w4 ns (some ⟨bl,ol,none⟩) cn Gn from Am.out.rd).get (k:=0) J;simp only [Option.some.injEq,Addr.mk.injEq,and_true] at hA';obtain ⟨rfl,rfl⟩:=hA';obtain ⟨Av,cv,Fv,aE,rfl,cf,ia,hvals⟩:=og jh;subst aE;have rt:=I jh;have rc:=I ng;have OY:=I su;have q0:w4.cell? ⟨bl,ol,none⟩ = some (.string ns[0].key):=(by have:=bE 0 _ rfl;simpa using this);have q1:w4.cell? ⟨bl,ol+1,none⟩ = some (.int .i64 ns[0].op):=(by have:=bE 1 _ rfl;simpa using this);have q2:w4.cell? ⟨bl,ol+2,none⟩ = some (.slice Av ns[0].values.length cv):=(by have:=bE 2 _ rfl;simpa using this);clear ng bE jh su hvals;refine Un (fun w'=>lA w4 w') #[true,true,true,true,true,true,true,true,true,true,true,false] 11 U' U' (aA (aj _)) ?_;refine oC (fun a0 a' w'=>∃(A6:Option Addr) (c6:Nat) (G6:List Nat) (u0 u1 u2 u3 u4 u5 u6 u7 u8 u9 u10:Value),a' = (Act.put (Act.put (Act.put (Act.put (Act.put (Act.put (Act.put (Act.put (Act.put (Act.put (Act.put a0 (some 29) u0) (some 30) u1) (some 31) u2) (some 33) u3) (some 34) u4) (some 35) u5) (some 36) u6) (some 32) u7) (some 37) u8) (some 38) u9) (some 39) u10)∧nN [w2.heap.size] w4 w'∧oG w' w2.heap.size [.string nm,.slice A4 ks.length c4,.int .i64 ca,.int .i64 me,.int .i64 ra,.slice A6 ns.length c6,.slice At ts.length ct]∧cQ w' 0 (ns.tail++[ns[0]]) [.slice A6 ns.length c6] G6∧(∀b∈G6,b≠w.heap.size∧b≠w2.heap.size)) ?_ ?_;rotate_left
   ·intro HK;have aK:Below w4.heap.size w4 w4.drew:=aA (aj _)
    refine bX 0 _ O U' H' aK (Or.inl ⟨rfl,fun wq hq=>by
     have ee:=(aB hq).1;go_simp
     try rfl⟩) ?_
    try simp only [Act.put,pz]
    refine bX 1 _ O U' H' aK (Or.inl ⟨rfl,fun wq hq=>by
     have ee:=(aB hq).1;go_simp
     try rfl⟩) ?_
    try simp only [Act.put,pz]
    refine bX 2 _ O U' H' aK (Or.inl ⟨rfl,fun wq hq=>by
     have ee:=(aB hq).1;go_simp
     try rfl⟩) ?_
    try simp only [Act.put,pz]
    refine bX 4 _ O U' H' aK (Or.inl ⟨rfl,fun wq hq=>by
     have ee:=(aB hq).1;go_simp
     try rfl⟩) ?_
    try simp only [Act.put,pz]
    refine bX 5 _ O U' H' aK (Or.inl ⟨rfl,fun wq hq=>by
     have ee:=(aB hq).1;go_simp
     try rfl⟩) ?_
    try simp only [Act.put,pz]
    refine bX 6 _ O U' H' aK (Or.inl ⟨rfl,fun wq hq=>by
     have ee:=(aB hq).1;go_simp
     try rfl⟩) ?_
    try simp only [Act.put,pz]
    refine bX 7 _ O U' H' aK (Or.inl ⟨rfl,fun wq hq=>by
     have ee:=(aB hq).1;go_simp
     try rfl⟩) ?_
    try simp only [Act.put,pz]
    generalize w4.drew = wd at *;have Ff:w4.heap.size≤wd.heap.size:=aK.size;refine jp 3 8 O O U' O O (fun K hK=>?_) (fun K hK=>?_)
    ·go_simp;have mC:=JR ns.tail (some ⟨bl,ol+3,none⟩) (cn - 1) Ft wd (rc.out.ext aK) (by simp;omega) (fun x hx=>OS.out x (List.mem_of_mem_tail hx));rw [List.length_tail] at mC;refine mC.mono ?_;rintro e w5 ⟨v5,ds5,F5,rfl,hR5,hcs5,hne5,bv⟩;have mj:=I hR5;have ut:=I hcs5;have O0:=I hne5;have zV:w4.heap.size≤wd.heap.size:=aK.size;have Es:=bv.size;replace aK:=ah aK bv;have ei:∀y,v5.ownBlock = some y→wd.heap.size≤y∧y < w5.heap.size:=fun y hy=>hR5.lt y hy;refine hK _ _ aK ?_;try simp only [Act.put,pz]
     clear hK K;clear mC hR5 hcs5 hne5;refine cc 8 O U' O (fun K hK=>?_);go_simp;have lj:=oG.new w5 [.string ns[0].key,.int .i64 ns[0].op,.slice Av ns[0].values.length cv] 70;try simp only [World.size_alloc] at lj
     have r8:=I lj;clear lj;replace aK:=ak aK (.cells ([.string ns[0].key,.int .i64 ns[0].op,.slice Av ns[0].values.length cv]:List Value).toArray 70);refine hK _ _ aK ?_;try simp only [Act.put,pz]
     clear hK K;have mj:=I (mj.out.alloc (.cells ([.string ns[0].key,.int .i64 ns[0].op,.slice Av ns[0].values.length cv]:List Value).toArray 70));have ut:=I (ut.out.ext (ak (aj _) (.cells ([.string ns[0].key,.int .i64 ns[0].op,.slice Av ns[0].values.length cv]:List Value).toArray 70)));have HQ:=I (r8.out);have i7:=aK.size;refine cc 9 O U' O (fun K hK=>?_);refine cr oF rfl _ _ O (w5.alloc (.cells ([.string ns[0].key,.int .i64 ns[0].op,.slice Av ns[0].values.length cv]:List Value).toArray 70)) _ _ (ns.length - 1) ds5 mj.out O [ns[0]] ⟨w5.heap.size,0,none⟩ 1 1 (w5.heap.size :: Fk) (Sl.one (aZ rt.out aK) HQ.out) rfl O (by simp;omega) J (by have:=bv.size;simp only [World.size_alloc] at *;omega) ?_;intro v6 w6 Af G6 lQ Ug R6 eT fR;have ij:Below w4.heap.size w4 w6:=lS (vP mj.out zV) eT aK i7;have h1:=(ut.out.bs (fun y hy=>eT.block y (ut.out.lt y hy) (fun hv=>O0.out y hv.symm hy)) eT.size).rd;have Lh:∀y∈G6,y = w5.heap.size∨y∈Gn:=fun y hy=>by
      rcases List.mem_cons.1 (Ug y hy) with h | h
      ·exact .inl h
      ·exact .inr (OY.out y h)
     exact CA
    ·go_simp;have lj:=oG.new wd [.string ns[0].key,.int .i64 ns[0].op,.slice Av ns[0].values.length cv] 70;try simp only [World.size_alloc] at lj
     have r8:=I lj;clear lj;replace aK:=ak aK (.cells ([.string ns[0].key,.int .i64 ns[0].op,.slice Av ns[0].values.length cv]:List Value).toArray 70);refine hK _ _ aK ?_;try simp only [Act.put,pz]
     clear hK K;refine cc 3 O U' O (fun K hK=>?_);go_simp;have mC:=JR ns.tail (some ⟨bl,ol+3,none⟩) (cn - 1) Ft (wd.alloc (.cells ([.string ns[0].key,.int .i64 ns[0].op,.slice Av ns[0].values.length cv]:List Value).toArray 70)) (rc.out.ext aK) (by simp;omega) (fun x hx=>OS.out x (List.mem_of_mem_tail hx));rw [List.length_tail] at mC;refine mC.mono ?_;rintro e w5 ⟨v5,ds5,F5,rfl,hR5,hcs5,hne5,bv⟩;have mj:=I hR5;have ut:=I hcs5;have O0:=I hne5;have zV:w4.heap.size≤(wd.alloc (.cells ([.string ns[0].key,.int .i64 ns[0].op,.slice Av ns[0].values.length cv]:List Value).toArray 70)).heap.size:=aK.size;have Es:=bv.size;replace aK:=ah aK bv;have ei:∀y,v5.ownBlock = some y→(wd.alloc (.cells ([.string ns[0].key,.int .i64 ns[0].op,.slice Av ns[0].values.length cv]:List Value).toArray 70)).heap.size≤y∧y < w5.heap.size:=fun y hy=>hR5.lt y hy;refine hK _ _ aK ?_;try simp only [Act.put,pz]
     clear hK K;clear mC hR5 hcs5 hne5;have HQ:=I ((r8.out.ext bv));have i7:=aK.size;refine cc 9 O U' O (fun K hK=>?_);refine cr oF rfl _ _ O w5 _ _ (ns.length - 1) ds5 mj.out O [ns[0]] ⟨wd.heap.size,0,none⟩ 1 1 (wd.heap.size :: Fk) (Sl.one (aZ rt.out aK) HQ.out) rfl O (by simp;omega) J (by have:=bv.size;simp only [World.size_alloc] at *;omega) ?_;intro v6 w6 Af G6 lQ Ug R6 eT fR;have ij:Below w4.heap.size w4 w6:=lS (vP mj.out zV) eT aK i7;have h1:=(ut.out.bs (fun y hy=>eT.block y (ut.out.lt y hy) (fun hv=>O0.out y hv.symm hy)) eT.size).rd;have Lh:∀y∈G6,y = wd.heap.size∨y∈Gn:=fun y hy=>by
      rcases List.mem_cons.1 (Ug y hy) with h | h
      ·exact .inl h
      ·exact .inr (OY.out y h)
     exact CA
   rintro _ w5 ⟨A6,c6,G6,_,_,_,_,_,_,_,_,_,_,_,rfl,hU5,Bn,hG5,Dc⟩;obtain ⟨ms,hms⟩:∃ms,ms = ns.tail++[ns[0]]:=⟨_,rfl⟩;have bF:ns.length = ms.length:=(by rw [hms,sg]);have e':kL aM.wt ms = kL aM.wt ns:=(by rw [hms];exact r7 _ tD);rw [← hms] at hG5;rw [bF] at hG5 Bn;have xx:=vy.out.bR hU5 J;have yy:=Bn;have HL5:=I (Ib.out.bs (fun b X=>hU5.block b (Ib.out.lt b X) (by rw [List.mem_singleton];exact (K4.out b X).2)) hU5.size);have HN5:=I hG5;have HT5:=I (Ic.out.bs (fun b X=>hU5.block b (Ic.out.lt b X) (by rw [List.mem_singleton];exact (BT.out b X).2)) hU5.size);have BM:=I Dc;have Bu:=I (fS.out.trans (hU5.aD (B:=w.heap.size) (fun b X=>by rw [List.mem_singleton] at X;omega) J));have Bs:=I (show nm.size+kL ap.wt ks+kL aM.wt ms+kL bH.wt ts≤2000 by rw [e'];exact sI.out);obtain ⟨iA,azr,azs,azt,azu,azv,azw,azx,azy,azz,azA,azB,aEY,aEZ⟩:=fv xx;obtain ⟨iP,aAC,aAD,aAE,aAF,aAG,aAH,aAI,aAJ,aAK,aAL,aAM,aE0,aE1⟩:=fv yy;clear xx yy hms bF e' hG5 Bn Dc hU5 vy kj Ib Am Ic fS sI y5 q0 q1 q2 rt rc OY OS hft sg tD KM d7 zR OR UA j8 hnn gA fV cf ia;go_wp2;have hI:=HI.out;have hF:=kd K4.out BM.out BT.out;have hG:=cQ.mD (nm:=nm) (a:=ca) (m:=me) (r:=ra) HL5.out HN5.out HT5.out hI.1 hI.2.1 hI.2.2.1 hI.2.2.2;refine bodyPost_ret (v:=.agg #[.string nm,.slice A4 ks.length c4,.int .i64 ca,.int .i64 me,.int .i64 ra,.slice A6 ms.length c6,.slice At ts.length ct]) (by simp [results,Tryz.results8,go_sem, *]) rfl ?_
   first
    | exact ⟨⟨nm,ks,ca,me,ra,ms,ts⟩,_,_,rfl,(((((((hG.bt (p:=⟨w.heap.size,0,none⟩) (fun b X=>(hF b X).1) _).bt (p:=⟨w.heap.size,1,none⟩) (fun b X=>(hF b X).1) _).bt (p:=⟨w.heap.size,2,none⟩) (fun b X=>(hF b X).1) _).bt (p:=⟨w.heap.size,3,none⟩) (fun b X=>(hF b X).1) _).bt (p:=⟨w.heap.size,4,none⟩) (fun b X=>(hF b X).1) _).bt (p:=⟨w.heap.size,5,none⟩) (fun b X=>(hF b X).1) _).bt (p:=⟨w.heap.size,6,none⟩) (fun b X=>(hF b X).1) _).rd,Bs.out,(aC (aC (aC (aC (aC (aC (aC Bu.out (Nat.le_refl _) _) (Nat.le_refl _) _) (Nat.le_refl _) _) (Nat.le_refl _) _) (Nat.le_refl _) _) (Nat.le_refl _) _) (Nat.le_refl _) _)⟩
    | exact ⟨⟨nm,ks,ca,me,ra,ms,ts⟩,_,rfl,⟨_,(((((((hG.bt (p:=⟨w.heap.size,0,none⟩) (fun b X=>(hF b X).1) _).bt (p:=⟨w.heap.size,1,none⟩) (fun b X=>(hF b X).1) _).bt (p:=⟨w.heap.size,2,none⟩) (fun b X=>(hF b X).1) _).bt (p:=⟨w.heap.size,3,none⟩) (fun b X=>(hF b X).1) _).bt (p:=⟨w.heap.size,4,none⟩) (fun b X=>(hF b X).1) _).bt (p:=⟨w.heap.size,5,none⟩) (fun b X=>(hF b X).1) _).bt (p:=⟨w.heap.size,6,none⟩) (fun b X=>(hF b X).1) _).rd⟩,Bs.out,(aC (aC (aC (aC (aC (aC (aC Bu.out (Nat.le_refl _) _) (Nat.le_refl _) _) (Nat.le_refl _) _) (Nat.le_refl _) _) (Nat.le_refl _) _) (Nat.le_refl _) _) (Nat.le_refl _) _)⟩
  ·have UA:¬(1:Int) < ns.length:=J;have xx:=vy.out;have yy:=kj.out;obtain ⟨iA,azr,azs,azt,azu,azv,azw,azx,azy,azz,azA,azB,aEY,aEZ⟩:=fv xx;obtain ⟨iP,aAC,aAD,aAE,aAF,aAG,aAH,aAI,aAJ,aAK,aAL,aAM,aE0,aE1⟩:=fv yy;clear xx yy vy kj;go_wp2;have hI:=HI.out;have hF:=kd K4.out BN.out BT.out;have hG:=cQ.mD (nm:=nm) (a:=ca) (m:=me) (r:=ra) Ib.out Am.out Ic.out hI.1 hI.2.1 hI.2.2.1 hI.2.2.2;refine bodyPost_ret (v:=.agg #[.string nm,.slice A4 ks.length c4,.int .i64 ca,.int .i64 me,.int .i64 ra,.slice An ns.length cn,.slice At ts.length ct]) (by simp [results,Tryz.results8,go_sem, *]) rfl ?_
   first
    | exact ⟨⟨nm,ks,ca,me,ra,ns,ts⟩,_,_,rfl,(((((((hG.bt (p:=⟨w.heap.size,0,none⟩) (fun b X=>(hF b X).1) _).bt (p:=⟨w.heap.size,1,none⟩) (fun b X=>(hF b X).1) _).bt (p:=⟨w.heap.size,2,none⟩) (fun b X=>(hF b X).1) _).bt (p:=⟨w.heap.size,3,none⟩) (fun b X=>(hF b X).1) _).bt (p:=⟨w.heap.size,4,none⟩) (fun b X=>(hF b X).1) _).bt (p:=⟨w.heap.size,5,none⟩) (fun b X=>(hF b X).1) _).bt (p:=⟨w.heap.size,6,none⟩) (fun b X=>(hF b X).1) _).rd,sI.out,(aC (aC (aC (aC (aC (aC (aC fS.out (Nat.le_refl _) _) (Nat.le_refl _) _) (Nat.le_refl _) _) (Nat.le_refl _) _) (Nat.le_refl _) _) (Nat.le_refl _) _) (Nat.le_refl _) _)⟩
    | exact ⟨⟨nm,ks,ca,me,ra,ns,ts⟩,_,rfl,⟨_,(((((((hG.bt (p:=⟨w.heap.size,0,none⟩) (fun b X=>(hF b X).1) _).bt (p:=⟨w.heap.size,1,none⟩) (fun b X=>(hF b X).1) _).bt (p:=⟨w.heap.size,2,none⟩) (fun b X=>(hF b X).1) _).bt (p:=⟨w.heap.size,3,none⟩) (fun b X=>(hF b X).1) _).bt (p:=⟨w.heap.size,4,none⟩) (fun b X=>(hF b X).1) _).bt (p:=⟨w.heap.size,5,none⟩) (fun b X=>(hF b X).1) _).bt (p:=⟨w.heap.size,6,none⟩) (fun b X=>(hF b X).1) _).rd⟩,sI.out,(aC (aC (aC (aC (aC (aC (aC fS.out (Nat.le_refl _) _) (Nat.le_refl _) _) (Nat.le_refl _) _) (Nat.le_refl _) _) (Nat.le_refl _) _) (Nat.le_refl _) _) (Nat.le_refl _) _)⟩
end Go.Proofs.YtajbbmembionpaaGreat
