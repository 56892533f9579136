/- DrawPodNormal: a pod that may be wrong, its rows turned. No condition. -/
import Derived.Test.YtajbbmembionpaaGreatDrawA5
namespace Go.Proofs.YtajbbmembionpaaGreat
open Go.ChangeShapes Go.WideShapes Go.ChangeAt Go.RowKit
set_option linter.unusedVariables false
set_option linter.unusedSimpArgs false
set_option maxHeartbeats 4000000
set_option maxRecDepth 100000
theorem Sl.tail {α:Type} [bb α] {w:World} {xs:List α} {A:Option Addr} {c:Nat} {F:List Nat} (h:Sl w xs A c F) (hl:1 < xs.length) :
 ∃b o F',A = some ⟨b,o,none⟩∧(∀y∈F',y∈F)∧Sl w xs.tail (some ⟨b,o+bb.size α,none⟩) (c - 1) F'∧xs.length≤c:=by
 cases xs with
 | nil=>simp at hl
 | cons x xs =>
   obtain ⟨A',c',G,ds,e0,Z,h2,hc,h0⟩:=h;simp only [List.cons.injEq,Value.slice.injEq,and_true,true_and] at e0;obtain ⟨rfl,rfl⟩:=e0;rcases h0 with ⟨h3,_⟩ | ⟨b,o',hA,rfl,U,bJ⟩
   ·cases h3
   ·obtain ⟨c1,c2,F1,F2,rfl,rfl,hr,cj⟩:=hc;refine ⟨b,o',b :: F2,hA,fun y hy=>?_,⟨_,_,F2,c2,rfl,?_,?_,cj,.inr ⟨b,_,rfl,rfl,U,fun j u hu=>?_⟩⟩,Z⟩
    ·rcases List.mem_cons.1 hy with rfl | hy
     ·exact List.mem_cons_self
     ·exact List.mem_cons_of_mem _ (List.mem_append_right _ hy)
    ·simp only [List.length_cons,List.tail_cons] at *;omega
    ·omega
    ·have hlc:=bb.len hr;have:=bJ (c1.length+j) u (by rw [List.getElem?_append_right J,Nat.add_sub_cancel_left];exact hu);rwa [hlc,← Nat.add_assoc] at this
theorem cE {α:Type} [bb α] {P:Program} {t e:TypeId} {z:Value} {size bytes:Nat} (hE:DL P t e z size bytes) (hd:bb.size α = size) {o:Oper} {a:Act} {K:Act→World→Prop} {Q:Exit→Act→World→Prop} (s x:Operand)
 (ho:o.op = .call { callee:=.builtin .append,args:=#[s,x],argTypes:=#[t,t] })
 (w:World) (base:Nat) (v:Value) (n:Nat) (xs:List Value) (bi:w.ownsRow base e size v n xs) (hs:a.eval s = v)
 (ys:List α) (ad:Addr) (c m:Nat) (F:List Nat) (j0:Sl w ys (some ad) c F) (hm:ys.length = m) (hx:a.eval x = .slice (some ad) m c)
 (X:n+ys.length≤2097152) (lU:bytes≤4096) (db:base≤w.heap.size)
 (h:∀v' w' ds G,jo w ys ds G→(∀b∈G,b∈F)→w'.ownsRow base e size v' (n+ys.length) (xs++ds)→w.grownBy w' v.ownBlock→(v'.ownBlock = v.ownBlock∨v'.ownBlock = some w.heap.size)→K (a.put o.dst v') w'):o.wp P a w K Q:=by
 subst hd;subst hm;obtain ⟨ht,hi0,j6,fX⟩:=hE;obtain ⟨i,hi,hz,hsize,U⟩:=info_parts hi0;have iP:(n+ys.length) * bytes≤2097152 * 4096:=Nat.mul_le_mul X lU;obtain ⟨A',c',G,ds,e0,Z,h2,hc,h0⟩:=j0;simp only [List.cons.injEq,Value.slice.injEq,and_true,true_and] at e0;obtain ⟨rfl,rfl⟩:=e0;have hG:∀b∈G,b∈F:=by
  exact Ek
 have bJ:∀j u,ds[j]? = some u→w.cell? (ad.add j) = some u:=by
  intro j u hu;rcases h0 with ⟨rfl,rfl⟩ | ⟨b,o',hA,rfl,U,bJ⟩
  ·obtain ⟨rfl,rfl⟩:=hc;simp at hu
  ·simp only [Option.some.injEq] at hA;subst hA;exact Ev
 obtain ⟨v',w',hr,g2,g3,g4,g5⟩:=run_append_own_at (P:=P) w base t o.type e i z (bb.size α) bytes ht hi hz hsize U j6 fX v n xs bi ad ys.length c ds hc.len bJ hc.one j4 J db;unfold Oper.wp execOp;simp only [ho,resolve,invoke,builtin,Sem.run_bind,Sem.run_pure,Result.andThen_ok,List.map_toArray,List.map_cons,List.map_nil,hs,hx,hr];exact h v' w' ds G hc hG g2 g3 g5
theorem Sl.pA {α:Type} [bb α] {w:World} {B:Nat} {xs:List α} {ds:List Value} {G:List Nat} {e:TypeId} {v:Value} (h0:w.ownsRow B e (bb.size α) v xs.length ds) (h:jo w xs ds G) :
 ∃A c F,v = .slice A xs.length c∧Sl w xs A c F∧∀y∈F,y∈G∨v.ownBlock = some y:=by
 rcases h0 with ⟨hl,⟨rfl,X⟩ | ⟨g,ar,dT,rfl,U,hh,gL,hm,cA,ht⟩⟩
 ·obtain rfl:xs = []:=List.eq_nil_of_length_eq_zero X;exact ⟨none,0,[],rfl,Sl.nil w none 0 (Nat.zero_le _),fun y hy=>by cases hy⟩
 ·have hg:g < w.heap.size:=by
   exact xA
  refine ⟨_,ar,g :: G,rfl,⟨_,ar,G,ds,rfl,gL,hm,h,.inr ⟨g,0,rfl,rfl,hg,fun j u hu=>?_⟩⟩,fun y hy=>?_⟩
  ·exact xp
  ·rcases List.mem_cons.1 hy with rfl | hy
   ·exact .inr rfl
   ·exact .inl hy
theorem Sl.one {α:Type} [bb α] {w:World} {x:α} {b:Nat} {cs:List Value} {F:List Nat} (hr:rd w x cs F) (U:oG w b cs):Sl w [x] (some ⟨b,0,none⟩) 1 (b :: F) :=
 ⟨_,1,F,cs,rfl,Nat.le_refl _,by unfold maxLen;omega,by have:=jo.single hr;exact this,.inr ⟨b,0,rfl,rfl,U.lt,fun j u hu=>by rw [Nat.zero_add];exact U.cell hu⟩⟩
theorem jo.bm {α:Type} [bb α] {w w':World} {xs:List α} {ds:List Value} {G:List Nat} (h:jo w xs ds G) (U:Below w.heap.size w w'):jo w' xs ds G:=h.frame (fun b hm=>U.block b (h.lt b hm)) U.size
theorem ru {α:Type} (f:α→Nat) {xs:List α} (h:0 < xs.length):kL f (xs.tail++[xs[0]]) = kL f xs:=by
 cases xs with
 | nil=>simp at h
 | cons x xs=>rw [ex];unfold kL;simp;omega
theorem gD (w:World) (A:Option Addr) (n ar:Nat) (X:(n:Int)≤1048576) (cL:∀k,k < n→∃(g o:Nat) (v:Int),A = some ⟨g,o,none⟩∧g < w.heap.size∧w.cell? ⟨g,o+k,none⟩ = some (.int .u8 v)∧0≤v∧v≤255) :
 Calls Tryz.prog 8 #[.slice A n ar] w fun e w'=>∃(x:nI) (cs:List Value) (G:List Nat),e = .returned (.agg cs.toArray)∧rd w' x cs G∧x.wt≤2000∧Below w.heap.size w w':=by
 have HS:=I cL;clear cL;go_enter Tryz.func8,Tryz.ntmps8;go_wp2_with fail
 refine (TP _ A n ar X (fun k hk=>?_)).mono ?_
 ·exact Eh
 rintro e w1 ⟨c,rfl,hc,H1,bp⟩;have cq:=bp.size;simp at cq hc;have HX:=I ((oG.new w [.string ⟨#[]⟩,.slice none 0 0,.int .i64 0,.int .i64 0,.int .i64 0,.slice none 0 0,.slice none 0 0] 35).ext bp);have HB:=I (ah b9 bp:Below w.heap.size w w1);have HC:=I H1;clear H1 bp HS;go_wp2_with fail
 refine (mb _ c A n ar HC.out).mono ?_;rintro e w2 ⟨x,cs,G,rfl,hG,hw,H2,b8⟩;obtain ⟨nm,ls,ca,me,ra,ns,ts⟩:=x;obtain ⟨Al,cl,Gl,An,cn,Gn,At,ct,Gt,aD,hl,hnd,ht,gA,mw,BR,jk⟩:=hG.l8;dsimp only at aD hl hnd ht gA mw BR jk;subst aD;have HI:=I (And.intro gA (And.intro mw (And.intro BR jk)));have HW:=I (show nm.size+kL ao.wt ls+kL aL.wt ns+kL bH.wt ts≤2000 from hw);have PG:=b8.size;have LS:=I ((HX.out.bS b8 J).ext (ak (aj _) (.cells ([.string nm,.slice Al ls.length cl,.int .i64 ca,.int .i64 me,.int .i64 ra,.slice An ns.length cn,.slice At ts.length ct]:List Value).toArray 35)));have jN:=I (oG.new w2 [.string nm,.slice Al ls.length cl,.int .i64 ca,.int .i64 me,.int .i64 ra,.slice An ns.length cn,.slice At ts.length ct] 35);have tU:=I (ak (HB.out.trans (b8.aE (B:=w.heap.size) (fun b U=>by rw [List.mem_singleton] at U;omega) J)) (.cells ([.string nm,.slice Al ls.length cl,.int .i64 ca,.int .i64 me,.int .i64 ra,.slice An ns.length cn,.slice At ts.length ct]:List Value).toArray 35));have IJ:=I ((hl.ext (ak (aj _) (.cells ([.string nm,.slice Al ls.length cl,.int .i64 ca,.int .i64 me,.int .i64 ra,.slice An ns.length cn,.slice At ts.length ct]:List Value).toArray 35))).mono (Nat.zero_le _));have IK:=I ((hnd.ext (ak (aj _) (.cells ([.string nm,.slice Al ls.length cl,.int .i64 ca,.int .i64 me,.int .i64 ra,.slice An ns.length cn,.slice At ts.length ct]:List Value).toArray 35))).mono (Nat.zero_le _));have IM:=I ((ht.ext (ak (aj _) (.cells ([.string nm,.slice Al ls.length cl,.int .i64 ca,.int .i64 me,.int .i64 ra,.slice An ns.length cn,.slice At ts.length ct]:List Value).toArray 35))).mono (Nat.zero_le _));have BL:=I (show ∀b∈Gl,b≠w.heap.size∧b≠w2.heap.size from fun b U=>by have Z:=hl.base b U;have h2:=hl.lt b U;omega);have BN:=I (show ∀b∈Gn,b≠w.heap.size∧b≠w2.heap.size from fun b U=>by have Z:=hnd.base b U;have h2:=hnd.lt b U;omega);have BT:=I (show ∀b∈Gt,b≠w.heap.size∧b≠w2.heap.size from fun b U=>by have Z:=ht.base b U;have h2:=ht.lt b U;omega);have mo:w.heap.size < w2.heap.size:=by omega
 have PU:w2.heap.size < (w2.alloc (.cells ([.string nm,.slice Al ls.length cl,.int .i64 ca,.int .i64 me,.int .i64 ra,.slice An ns.length cn,.slice At ts.length ct]:List Value).toArray 35)).heap.size:=by simp
 have y1:=jN.out.cell (i:=1) (u:=.slice Al ls.length cl) rfl;have cI:ls.length≤2000:=by have:=gJ ao.wt ls;have:=HW.out;omega
 have WB:ns.length≤2000:=by have:=gJ aL.wt ns;have:=HW.out;omega
 clear hG hw H2 b8 HB HX HC hl hnd ht gA mw BR jk;go_upto_region 3 with fail
 generalize w2.alloc (.cells ([.string nm,.slice Al ls.length cl,.int .i64 ca,.int .i64 me,.int .i64 ra,.slice An ns.length cn,.slice At ts.length ct]:List Value).toArray 35) = w3 at *;by_cases gr:1 < ls.length
 case' pos =>
  have Fw:(1:Int) < ls.length:=by omega
  have PV:(0:Int) < ls.length:=by omega
  go_wp2_with fail
  obtain ⟨bl,ol,Ft,rfl,hft,n9,kW⟩:=Sl.tail (show Sl w3 ls Al cl Gl from IJ.out.rd) gr;have zW:(ls.length:Int)≤cl:=by omega
  have dP:¬cl = 1:=by omega
  have LF:(1:Int)≤ls.length:=by omega
  have rU:0 < ls.length:=by omega
  have rK:(ls.tail++[ls[0]]).length = ls.length:=by simp;omega
  obtain ⟨b',o',ck,Fk,hA',gw,eV,jk,_,bJ⟩:=(show Sl w3 ls (some ⟨bl,ol,none⟩) cl Gl from IJ.out.rd).get (k:=0) J;simp only [Option.some.injEq,Addr.mk.injEq,and_true] at hA';obtain ⟨rfl,rfl⟩:=hA';obtain ⟨aD,su,ce,kP⟩:=vO jk;subst aD su;have qR:=I jk;have sm:=I n9;have q0:w3.cell? ⟨bl,ol,none⟩ = some (.string ls[0].key):=by have:=bJ 0 _ rfl;simpa using this
  have q1:w3.cell? ⟨bl,ol+1,none⟩ = some (.string ls[0].value):=by have:=bJ 1 _ rfl;simpa using this
  clear n9 bJ jk;refine PO (fun w'=>kA w3 w') #[true,true,true,true,true,true,true,true,true,true,true,true,false] 12 U' U' (aA (aj _)) ?_;refine oo (fun a0 a' w'=>∃(A4:Option Addr) (c4:Nat) (G4:List Nat) (v0 v1 v2 v3 v4 v5 v6 v7 v8 v9 v10 v11:Value),a' = (Act.put (Act.put (Act.put (Act.put (Act.put (Act.put (Act.put (Act.put (Act.put (Act.put (Act.put (Act.put a0 (some 14) v0) (some 15) v1) (some 16) v2) (some 18) v3) (some 19) v4) (some 20) v5) (some 21) v6) (some 13) v7) (some 17) v8) (some 22) v9) (some 23) v10) (some 24) v11)∧nN [w2.heap.size] w3 w'∧oG w' w2.heap.size [.string nm,.slice A4 ls.length c4,.int .i64 ca,.int .i64 me,.int .i64 ra,.slice An ns.length cn,.slice At ts.length ct]∧cX w' 0 (ls.tail++[ls[0]]) [.slice A4 ls.length c4] G4∧(∀b∈G4,b≠w.heap.size∧b≠w2.heap.size)) ?_ ?_;rotate_left
  ·intro HK;have ba:Below w3.heap.size w3 w3.drew:=aA (aj _)
   refine bE 1 _ M U' H' ba (Or.inl ⟨rfl,fun wq hq=>by
    have dE:=(aB hq).1;go_simp
    try rfl⟩) ?_
   try simp only [Act.put,pz]
   refine bE 2 _ M U' H' ba (Or.inl ⟨rfl,fun wq hq=>by
    have dE:=(aB hq).1;go_simp
    try rfl⟩) ?_
   try simp only [Act.put,pz]
   refine bE 3 _ M U' H' ba (Or.inl ⟨rfl,fun wq hq=>by
    have dE:=(aB hq).1;go_simp
    try rfl⟩) ?_
   try simp only [Act.put,pz]
   refine bE 5 _ M U' H' ba (Or.inl ⟨rfl,fun wq hq=>by
    have dE:=(aB hq).1;go_simp
    try rfl⟩) ?_
   try simp only [Act.put,pz]
   refine bE 6 _ M U' H' ba (Or.inl ⟨rfl,fun wq hq=>by
    have dE:=(aB hq).1;go_simp
    try rfl⟩) ?_
   try simp only [Act.put,pz]
   refine bE 7 _ M U' H' ba (Or.inl ⟨rfl,fun wq hq=>by
    have dE:=(aB hq).1;go_simp
    try rfl⟩) ?_
   try simp only [Act.put,pz]
   refine bE 8 _ M U' H' ba (Or.inl ⟨rfl,fun wq hq=>by
    have dE:=(aB hq).1;go_simp
    try rfl⟩) ?_
   try simp only [Act.put,pz]
   generalize w3.drew = wd at *;have Gj:=ba.size;have LB:=I (sm.out.ext ba);refine jp 0 9 M M U' M M (fun K hK=>?_) (fun K hK=>?_)
   ·go_simp;have R0:=vP (D9 wd 67 2 wd.heap.size rfl) ba.size;try simp only [World.size_alloc] at R0
    replace ba:=ak ba (.cells #[] 67);refine hK _ _ ba ?_;try simp only [Act.put,pz]
    clear hK K;refine jp 4 9 M M U' M M (fun K hK=>?_) (fun K hK=>?_)
    ·refine cE km rfl _ _ M (wd.alloc (.cells #[] 67)) w3.heap.size _ 0 [] R0 M ls.tail ⟨bl,ol+2,none⟩ (cl - 1) (ls.length - 1) Ft (sm.out.ext ba) S' M (by simp;omega) J ba.size ?_;intro v4 w4 AM G4 sw _ R4 gF j8;have mh:=lS R0 gF ba ba.size;refine hK _ _ mh ?_;try simp only [Act.put,pz]
     clear hK K;refine b5 9 M U' M (fun K hK=>?_);go_simp;have ld:=oG.new w4 [.string ls[0].key,.string ls[0].value] 67;try simp only [World.size_alloc] at ld
     have rv:=I ld;clear ld;replace ba:=ak mh (.cells ([.string ls[0].key,.string ls[0].value]:List Value).toArray 67);refine hK _ _ ba ?_;try simp only [Act.put,pz]
     clear hK K;have uT:=I (rv.out);refine b5 10 M U' M (fun K hK=>?_);refine cE km rfl _ _ M (w4.alloc (.cells ([.string ls[0].key,.string ls[0].value]:List Value).toArray 67)) w3.heap.size _ (0+ls.tail.length) ([]++AM) (R4.alloc _) M [ls[0]] ⟨w4.heap.size,0,none⟩ 1 1 [w4.heap.size] (Sl.one (aZ qR.out ba) uT.out) rfl M (by simp;omega) J ba.size ?_;intro v6 w6 wB G6 lM _ R6 fb fW;have ie:=lS (R4.alloc _) fb ba ba.size;exact wy
    ·go_simp;have ld:=oG.new (wd.alloc (.cells #[] 67)) [.string ls[0].key,.string ls[0].value] 67;try simp only [World.size_alloc] at ld
     have rv:=I ld;clear ld;replace ba:=ak ba (.cells ([.string ls[0].key,.string ls[0].value]:List Value).toArray 67);refine hK _ _ ba ?_;try simp only [Act.put,pz]
     clear hK K;refine b5 4 M U' M (fun K hK=>?_);refine cE km rfl _ _ M ((wd.alloc (.cells #[] 67)).alloc (.cells ([.string ls[0].key,.string ls[0].value]:List Value).toArray 67)) w3.heap.size _ 0 [] (R0.alloc _) M ls.tail ⟨bl,ol+2,none⟩ (cl - 1) (ls.length - 1) Ft (sm.out.ext ba) S' M (by simp;omega) J ba.size ?_;intro v4 w4 AM G4 sw _ R4 gF j8;have mh:=lS (R0.alloc _) gF ba ba.size;refine hK _ _ mh ?_;try simp only [Act.put,pz]
     clear hK K;have sn:=I (rv.out.bm (gF.block _ rv.out.lt (by intro e;simp [Value.ownBlock] at e)));replace ba:=mh;have uT:=I (sn.out);refine b5 10 M U' M (fun K hK=>?_);refine cE km rfl _ _ M w4 w3.heap.size _ (0+ls.tail.length) ([]++AM) R4 M [ls[0]] ⟨(wd.heap.size+1),0,none⟩ 1 1 [(wd.heap.size+1)] (Sl.one (aZ qR.out ba) uT.out) rfl M (by simp;omega) J ba.size ?_;intro v6 w6 wB G6 lM _ R6 fb fW;have ie:=lS R4 fb ba ba.size;exact wy
   ·go_simp;have ld:=oG.new wd [.string ls[0].key,.string ls[0].value] 67;try simp only [World.size_alloc] at ld
    have rv:=I ld;clear ld;replace ba:=ak ba (.cells ([.string ls[0].key,.string ls[0].value]:List Value).toArray 67);refine hK _ _ ba ?_;try simp only [Act.put,pz]
    clear hK K;refine b5 0 M U' M (fun K hK=>?_);go_simp;have R0:=vP (D9 (wd.alloc (.cells ([.string ls[0].key,.string ls[0].value]:List Value).toArray 67)) 67 2 (wd.alloc (.cells ([.string ls[0].key,.string ls[0].value]:List Value).toArray 67)).heap.size rfl) ba.size;try simp only [World.size_alloc] at R0
    replace ba:=ak ba (.cells #[] 67);refine hK _ _ ba ?_;try simp only [Act.put,pz]
    clear hK K;refine b5 4 M U' M (fun K hK=>?_);refine cE km rfl _ _ M ((wd.alloc (.cells ([.string ls[0].key,.string ls[0].value]:List Value).toArray 67)).alloc (.cells #[] 67)) w3.heap.size _ 0 [] R0 M ls.tail ⟨bl,ol+2,none⟩ (cl - 1) (ls.length - 1) Ft (sm.out.ext ba) S' M (by simp;omega) J ba.size ?_;intro v4 w4 AM G4 sw _ R4 gF j8;have mh:=lS R0 gF ba ba.size;refine hK _ _ mh ?_;try simp only [Act.put,pz]
    clear hK K;have sn:=I ((rv.out.ext (ak (aj _) _)).bm (gF.block _ (rv.out.ext (ak (aj _) _)).lt (by intro e;simp [Value.ownBlock] at e)));replace ba:=mh;have uT:=I (sn.out);refine b5 10 M U' M (fun K hK=>?_);refine cE km rfl _ _ M w4 w3.heap.size _ (0+ls.tail.length) ([]++AM) R4 M [ls[0]] ⟨wd.heap.size,0,none⟩ 1 1 [wd.heap.size] (Sl.one (aZ qR.out ba) uT.out) rfl M (by simp;omega) J ba.size ?_;intro v6 w6 wB G6 lM _ R6 fb fW;have ie:=lS R4 fb ba ba.size;exact wy
  rintro _ w4 ⟨A4,c4,G4,_,_,_,_,_,_,_,_,_,_,_,_,rfl,Py,hY4,hG4,uP⟩;obtain ⟨ks,fh⟩:∃ks,ks = ls.tail++[ls[0]]:=⟨_,rfl⟩;have bI:ls.length = ks.length:=by rw [fh,rK]
  have ft:kL ao.wt ks = kL ao.wt ls:=by rw [fh];exact ru _ rU
  rw [← fh] at hG4;rw [bI] at hG4 hY4;have vx:=I (LS.out.bS Py J);have kj:=I hY4;have IN:=I hG4;have LV:=I uP;have ib:=I (tU.out.trans (Py.aE (B:=w.heap.size) (fun b U=>by rw [List.mem_singleton] at U;omega) J));have AR:=I (IK.out.bm (fun b U=>Py.block b (IK.out.lt b U) (by rw [List.mem_singleton];exact (BN.out b U).2)) Py.size);have IP:=I (IM.out.bm (fun b U=>Py.block b (IM.out.lt b U) (by rw [List.mem_singleton];exact (BT.out b U).2)) Py.size);have sn:=I (show nm.size+kL ao.wt ks+kL aL.wt ns+kL bH.wt ts≤2000 by rw [ft];exact HW.out);have Wy:=Py.size;have PZ:w2.heap.size < w4.heap.size:=by omega
  have y5:=kj.out.cell (i:=5) (u:=.slice An ns.length cn) rfl;clear fh bI ft hG4 hY4 uP Py LS jN tU IJ IK IM BL HW y1 q0 q1 qR sm hft Wy PU rK rU LF dP zW PV Fw kW gr gw eV ce kP;skip
 case' neg =>
  have Fw:¬(1:Int) < ls.length:=by omega
  obtain ⟨w4,hw4⟩:∃w4,w4 = w3:=⟨_,rfl⟩;subst hw4;have vx:=LS;have kj:=jN;have IN:=IJ;have LV:=BL;have ib:=tU;have AR:=IK;have IP:=IM;have sn:=HW;have PZ:=PU;have y5:=kj.out.cell (i:=5) (u:=.slice An ns.length cn) rfl;clear LS jN tU IJ IK IM BL HW PU;obtain ⟨ks,fh⟩:∃ks,ks = ls:=⟨_,rfl⟩;subst fh;obtain ⟨A4,qk⟩:∃A4,A4 = Al:=⟨_,rfl⟩;subst qk;obtain ⟨c4,fa⟩:∃c4,c4 = cl:=⟨_,rfl⟩;subst fa
 all_goals
  by_cases hnn:1 < ns.length
  ·have WD:(1:Int) < ns.length:=J;have P0:(0:Int) < ns.length:=J;have WG:∀x∈ns,(x.values.length:Int)≤1048576:=fun x hx=>by
    have Z:=Bq (f:=aL.wt) hx;have h2:=sn.out;have h3:x.wt = x.key.size+kL ByteArray.size x.values:=rfl;have h4:=gJ ByteArray.size x.values;omega
   have P1:=I WG;clear WG;go_wp2_with fail
   obtain ⟨bl,ol,Ft,rfl,hft,n9,kW⟩:=Sl.tail (show Sl w4 ns An cn Gn from AR.out.rd) hnn;have zW:(ns.length:Int)≤cn:=J;have dP:¬cn = 1:=J;have LF:(1:Int)≤ns.length:=J;have rU:0 < ns.length:=J;have rK:(ns.tail++[ns[0]]).length = ns.length:=(by simp;omega);obtain ⟨b',o',ck,Fk,hA',gw,eV,jk,su,bJ⟩:=(show Sl w4 ns (some ⟨bl,ol,none⟩) cn Gn from AR.out.rd).get (k:=0) J;simp only [Option.some.injEq,Addr.mk.injEq,and_true] at hA';obtain ⟨rfl,rfl⟩:=hA';obtain ⟨Av,cv,Fv,aD,rfl,ce,eK,hvals⟩:=og jk;subst aD;have qR:=I jk;have sm:=I n9;have P2:=I su;have q0:w4.cell? ⟨bl,ol,none⟩ = some (.string ns[0].key):=(by have:=bJ 0 _ rfl;simpa using this);have q1:w4.cell? ⟨bl,ol+1,none⟩ = some (.int .i64 ns[0].op):=(by have:=bJ 1 _ rfl;simpa using this);have q2:w4.cell? ⟨bl,ol+2,none⟩ = some (.slice Av ns[0].values.length cv):=(by have:=bJ 2 _ rfl;simpa using this);clear n9 bJ jk su hvals;refine PO (fun w'=>kA w4 w') #[true,true,true,true,true,true,true,true,true,true,true,false] 11 U' U' (aA (aj _)) ?_;refine oo (fun a0 a' w'=>∃(A6:Option Addr) (c6:Nat) (G6:List Nat) (u0 u1 u2 u3 u4 u5 u6 u7 u8 u9 u10:Value),a' = (Act.put (Act.put (Act.put (Act.put (Act.put (Act.put (Act.put (Act.put (Act.put (Act.put (Act.put a0 (some 29) u0) (some 30) u1) (some 31) u2) (some 33) u3) (some 34) u4) (some 35) u5) (some 36) u6) (some 32) u7) (some 37) u8) (some 38) u9) (some 39) u10)∧nN [w2.heap.size] w4 w'∧oG w' w2.heap.size [.string nm,.slice A4 ks.length c4,.int .i64 ca,.int .i64 me,.int .i64 ra,.slice A6 ns.length c6,.slice At ts.length ct]∧cX w' 0 (ns.tail++[ns[0]]) [.slice A6 ns.length c6] G6∧(∀b∈G6,b≠w.heap.size∧b≠w2.heap.size)) ?_ ?_;rotate_left
   ·intro HK;have ba:Below w4.heap.size w4 w4.drew:=aA (aj _)
    refine bE 0 _ M U' H' ba (Or.inl ⟨rfl,fun wq hq=>by
     have dE:=(aB hq).1;go_simp
     try rfl⟩) ?_
    try simp only [Act.put,pz]
    refine bE 1 _ M U' H' ba (Or.inl ⟨rfl,fun wq hq=>by
     have dE:=(aB hq).1;go_simp
     try rfl⟩) ?_
    try simp only [Act.put,pz]
    refine bE 2 _ M U' H' ba (Or.inl ⟨rfl,fun wq hq=>by
     have dE:=(aB hq).1;go_simp
     try rfl⟩) ?_
    try simp only [Act.put,pz]
    refine bE 4 _ M U' H' ba (Or.inl ⟨rfl,fun wq hq=>by
     have dE:=(aB hq).1;go_simp
     try rfl⟩) ?_
    try simp only [Act.put,pz]
    refine bE 5 _ M U' H' ba (Or.inl ⟨rfl,fun wq hq=>by
     have dE:=(aB hq).1;go_simp
     try rfl⟩) ?_
    try simp only [Act.put,pz]
    refine bE 6 _ M U' H' ba (Or.inl ⟨rfl,fun wq hq=>by
     have dE:=(aB hq).1;go_simp
     try rfl⟩) ?_
    try simp only [Act.put,pz]
    refine bE 7 _ M U' H' ba (Or.inl ⟨rfl,fun wq hq=>by
     have dE:=(aB hq).1;go_simp
     try rfl⟩) ?_
    try simp only [Act.put,pz]
    generalize w4.drew = wd at *;have Gj:w4.heap.size≤wd.heap.size:=ba.size;refine jp 3 8 M M U' M M (fun K hK=>?_) (fun K hK=>?_)
    ·go_simp;have mw:=Lb ns.tail (some ⟨bl,ol+3,none⟩) (cn - 1) Ft wd (sm.out.ext ba) (by simp;omega) (fun x hx=>P1.out x (List.mem_of_mem_tail hx));rw [List.length_tail] at mw;refine mw.mono ?_;rintro e w5 ⟨v5,ds5,F5,rfl,hR5,hcs5,hne5,bs⟩;have l':=I hR5;have uo:=I hcs5;have P3:=I hne5;have zZ:w4.heap.size≤wd.heap.size:=ba.size;have Es:=bs.size;replace ba:=ah ba bs;have jK:∀y,v5.ownBlock = some y→wd.heap.size≤y∧y < w5.heap.size:=fun y hy=>hR5.lt y hy;refine hK _ _ ba ?_;try simp only [Act.put,pz]
     clear hK K;clear mw hR5 hcs5 hne5;refine b5 8 M U' M (fun K hK=>?_);go_simp;have ld:=oG.new w5 [.string ns[0].key,.int .i64 ns[0].op,.slice Av ns[0].values.length cv] 70;try simp only [World.size_alloc] at ld
     have rv:=I ld;clear ld;replace ba:=ak ba (.cells ([.string ns[0].key,.int .i64 ns[0].op,.slice Av ns[0].values.length cv]:List Value).toArray 70);refine hK _ _ ba ?_;try simp only [Act.put,pz]
     clear hK K;have l':=I (l'.out.alloc (.cells ([.string ns[0].key,.int .i64 ns[0].op,.slice Av ns[0].values.length cv]:List Value).toArray 70));have uo:=I (uo.out.ext (ak (aj _) (.cells ([.string ns[0].key,.int .i64 ns[0].op,.slice Av ns[0].values.length cv]:List Value).toArray 70)));have HQ:=I (rv.out);have iP:=ba.size;refine b5 9 M U' M (fun K hK=>?_);refine cE oy rfl _ _ M (w5.alloc (.cells ([.string ns[0].key,.int .i64 ns[0].op,.slice Av ns[0].values.length cv]:List Value).toArray 70)) _ _ (ns.length - 1) ds5 l'.out M [ns[0]] ⟨w5.heap.size,0,none⟩ 1 1 (w5.heap.size :: Fk) (Sl.one (aZ qR.out ba) HQ.out) rfl M (by simp;omega) J (by have:=bs.size;simp only [World.size_alloc] at *;omega) ?_;intro v6 w6 wB G6 lM Ug R6 fb fW;have ie:Below w4.heap.size w4 w6:=lS (vP l'.out zZ) fb ba iP;have Z:=(uo.out.bm (fun y hy=>fb.block y (uo.out.lt y hy) (fun hv=>P3.out y hv.symm hy)) fb.size).rd;have Mm:∀y∈G6,y = w5.heap.size∨y∈Gn:=fun y hy=>by
      rcases List.mem_cons.1 (Ug y hy) with h | h
      ·exact .inl h
      ·exact .inr (P2.out y h)
     exact CT
    ·go_simp;have ld:=oG.new wd [.string ns[0].key,.int .i64 ns[0].op,.slice Av ns[0].values.length cv] 70;try simp only [World.size_alloc] at ld
     have rv:=I ld;clear ld;replace ba:=ak ba (.cells ([.string ns[0].key,.int .i64 ns[0].op,.slice Av ns[0].values.length cv]:List Value).toArray 70);refine hK _ _ ba ?_;try simp only [Act.put,pz]
     clear hK K;refine b5 3 M U' M (fun K hK=>?_);go_simp;have mw:=Lb ns.tail (some ⟨bl,ol+3,none⟩) (cn - 1) Ft (wd.alloc (.cells ([.string ns[0].key,.int .i64 ns[0].op,.slice Av ns[0].values.length cv]:List Value).toArray 70)) (sm.out.ext ba) (by simp;omega) (fun x hx=>P1.out x (List.mem_of_mem_tail hx));rw [List.length_tail] at mw;refine mw.mono ?_;rintro e w5 ⟨v5,ds5,F5,rfl,hR5,hcs5,hne5,bs⟩;have l':=I hR5;have uo:=I hcs5;have P3:=I hne5;have zZ:w4.heap.size≤(wd.alloc (.cells ([.string ns[0].key,.int .i64 ns[0].op,.slice Av ns[0].values.length cv]:List Value).toArray 70)).heap.size:=ba.size;have Es:=bs.size;replace ba:=ah ba bs;have jK:∀y,v5.ownBlock = some y→(wd.alloc (.cells ([.string ns[0].key,.int .i64 ns[0].op,.slice Av ns[0].values.length cv]:List Value).toArray 70)).heap.size≤y∧y < w5.heap.size:=fun y hy=>hR5.lt y hy;refine hK _ _ ba ?_;try simp only [Act.put,pz]
     clear hK K;clear mw hR5 hcs5 hne5;have HQ:=I ((rv.out.ext bs));have iP:=ba.size;refine b5 9 M U' M (fun K hK=>?_);refine cE oy rfl _ _ M w5 _ _ (ns.length - 1) ds5 l'.out M [ns[0]] ⟨wd.heap.size,0,none⟩ 1 1 (wd.heap.size :: Fk) (Sl.one (aZ qR.out ba) HQ.out) rfl M (by simp;omega) J (by have:=bs.size;simp only [World.size_alloc] at *;omega) ?_;intro v6 w6 wB G6 lM Ug R6 fb fW;have ie:Below w4.heap.size w4 w6:=lS (vP l'.out zZ) fb ba iP;have Z:=(uo.out.bm (fun y hy=>fb.block y (uo.out.lt y hy) (fun hv=>P3.out y hv.symm hy)) fb.size).rd;have Mm:∀y∈G6,y = wd.heap.size∨y∈Gn:=fun y hy=>by
      rcases List.mem_cons.1 (Ug y hy) with h | h
      ·exact .inl h
      ·exact .inr (P2.out y h)
     exact CT
   rintro _ w5 ⟨A6,c6,G6,_,_,_,_,_,_,_,_,_,_,_,rfl,hU5,BE,hG5,Dc⟩;obtain ⟨ms,hms⟩:∃ms,ms = ns.tail++[ns[0]]:=⟨_,rfl⟩;have bI:ns.length = ms.length:=(by rw [hms,rK]);have ft:kL aL.wt ms = kL aL.wt ns:=(by rw [hms];exact ru _ rU);rw [← hms] at hG5;rw [bI] at hG5 BE;have xx:=vx.out.bS hU5 J;have yy:=BE;have HL5:=I (IN.out.bm (fun b U=>hU5.block b (IN.out.lt b U) (by rw [List.mem_singleton];exact (LV.out b U).2)) hU5.size);have HN5:=I hG5;have HT5:=I (IP.out.bm (fun b U=>hU5.block b (IP.out.lt b U) (by rw [List.mem_singleton];exact (BT.out b U).2)) hU5.size);have BM:=I Dc;have IR:=I (ib.out.trans (hU5.aE (B:=w.heap.size) (fun b U=>by rw [List.mem_singleton] at U;omega) J));have BQ:=I (show nm.size+kL ao.wt ks+kL aL.wt ms+kL bH.wt ts≤2000 by rw [ft];exact sn.out);obtain ⟨iA,azr,azs,azt,azu,azv,azw,azx,azy,azz,azA,azB,aEY,aEZ⟩:=eI xx;obtain ⟨iZ,aAC,aAD,aAE,aAF,aAG,aAH,aAI,aAJ,aAK,aAL,aAM,aE0,aE1⟩:=eI yy;clear xx yy hms bI ft hG5 BE Dc hU5 vx kj IN AR IP ib sn y5 q0 q1 q2 qR sm P2 P1 hft rK rU LF dP zW P0 WD kW hnn gw eV ce eK;go_wp2;have hI:=HI.out;have hF:=ke LV.out BM.out BT.out;have hG:=cX.mx (nm:=nm) (a:=ca) (m:=me) (r:=ra) HL5.out HN5.out HT5.out hI.1 hI.2.1 hI.2.2.1 hI.2.2.2;refine bodyPost_ret (v:=.agg #[.string nm,.slice A4 ks.length c4,.int .i64 ca,.int .i64 me,.int .i64 ra,.slice A6 ms.length c6,.slice At ts.length ct]) (by simp [results,Tryz.results8,go_sem, *]) rfl ?_
   first
    | exact ⟨⟨nm,ks,ca,me,ra,ms,ts⟩,_,_,rfl,(((((((hG.bu (p:=⟨w.heap.size,0,none⟩) (fun b U=>(hF b U).1) _).bu (p:=⟨w.heap.size,1,none⟩) (fun b U=>(hF b U).1) _).bu (p:=⟨w.heap.size,2,none⟩) (fun b U=>(hF b U).1) _).bu (p:=⟨w.heap.size,3,none⟩) (fun b U=>(hF b U).1) _).bu (p:=⟨w.heap.size,4,none⟩) (fun b U=>(hF b U).1) _).bu (p:=⟨w.heap.size,5,none⟩) (fun b U=>(hF b U).1) _).bu (p:=⟨w.heap.size,6,none⟩) (fun b U=>(hF b U).1) _).rd,BQ.out,(aC (aC (aC (aC (aC (aC (aC IR.out (Nat.le_refl _) _) (Nat.le_refl _) _) (Nat.le_refl _) _) (Nat.le_refl _) _) (Nat.le_refl _) _) (Nat.le_refl _) _) (Nat.le_refl _) _)⟩
    | exact ⟨⟨nm,ks,ca,me,ra,ms,ts⟩,_,rfl,⟨_,(((((((hG.bu (p:=⟨w.heap.size,0,none⟩) (fun b U=>(hF b U).1) _).bu (p:=⟨w.heap.size,1,none⟩) (fun b U=>(hF b U).1) _).bu (p:=⟨w.heap.size,2,none⟩) (fun b U=>(hF b U).1) _).bu (p:=⟨w.heap.size,3,none⟩) (fun b U=>(hF b U).1) _).bu (p:=⟨w.heap.size,4,none⟩) (fun b U=>(hF b U).1) _).bu (p:=⟨w.heap.size,5,none⟩) (fun b U=>(hF b U).1) _).bu (p:=⟨w.heap.size,6,none⟩) (fun b U=>(hF b U).1) _).rd⟩,BQ.out,(aC (aC (aC (aC (aC (aC (aC IR.out (Nat.le_refl _) _) (Nat.le_refl _) _) (Nat.le_refl _) _) (Nat.le_refl _) _) (Nat.le_refl _) _) (Nat.le_refl _) _) (Nat.le_refl _) _)⟩
  ·have WD:¬(1:Int) < ns.length:=J;have xx:=vx.out;have yy:=kj.out;obtain ⟨iA,azr,azs,azt,azu,azv,azw,azx,azy,azz,azA,azB,aEY,aEZ⟩:=eI xx;obtain ⟨iZ,aAC,aAD,aAE,aAF,aAG,aAH,aAI,aAJ,aAK,aAL,aAM,aE0,aE1⟩:=eI yy;clear xx yy vx kj;go_wp2;have hI:=HI.out;have hF:=ke LV.out BN.out BT.out;have hG:=cX.mx (nm:=nm) (a:=ca) (m:=me) (r:=ra) IN.out AR.out IP.out hI.1 hI.2.1 hI.2.2.1 hI.2.2.2;refine bodyPost_ret (v:=.agg #[.string nm,.slice A4 ks.length c4,.int .i64 ca,.int .i64 me,.int .i64 ra,.slice An ns.length cn,.slice At ts.length ct]) (by simp [results,Tryz.results8,go_sem, *]) rfl ?_
   first
    | exact ⟨⟨nm,ks,ca,me,ra,ns,ts⟩,_,_,rfl,(((((((hG.bu (p:=⟨w.heap.size,0,none⟩) (fun b U=>(hF b U).1) _).bu (p:=⟨w.heap.size,1,none⟩) (fun b U=>(hF b U).1) _).bu (p:=⟨w.heap.size,2,none⟩) (fun b U=>(hF b U).1) _).bu (p:=⟨w.heap.size,3,none⟩) (fun b U=>(hF b U).1) _).bu (p:=⟨w.heap.size,4,none⟩) (fun b U=>(hF b U).1) _).bu (p:=⟨w.heap.size,5,none⟩) (fun b U=>(hF b U).1) _).bu (p:=⟨w.heap.size,6,none⟩) (fun b U=>(hF b U).1) _).rd,sn.out,(aC (aC (aC (aC (aC (aC (aC ib.out (Nat.le_refl _) _) (Nat.le_refl _) _) (Nat.le_refl _) _) (Nat.le_refl _) _) (Nat.le_refl _) _) (Nat.le_refl _) _) (Nat.le_refl _) _)⟩
    | exact ⟨⟨nm,ks,ca,me,ra,ns,ts⟩,_,rfl,⟨_,(((((((hG.bu (p:=⟨w.heap.size,0,none⟩) (fun b U=>(hF b U).1) _).bu (p:=⟨w.heap.size,1,none⟩) (fun b U=>(hF b U).1) _).bu (p:=⟨w.heap.size,2,none⟩) (fun b U=>(hF b U).1) _).bu (p:=⟨w.heap.size,3,none⟩) (fun b U=>(hF b U).1) _).bu (p:=⟨w.heap.size,4,none⟩) (fun b U=>(hF b U).1) _).bu (p:=⟨w.heap.size,5,none⟩) (fun b U=>(hF b U).1) _).bu (p:=⟨w.heap.size,6,none⟩) (fun b U=>(hF b U).1) _).rd⟩,sn.out,(aC (aC (aC (aC (aC (aC (aC ib.out (Nat.le_refl _) _) (Nat.le_refl _) _) (Nat.le_refl _) _) (Nat.le_refl _) _) (Nat.le_refl _) _) (Nat.le_refl _) _) (Nat.le_refl _) _)⟩
end Go.Proofs.YtajbbmembionpaaGreat
