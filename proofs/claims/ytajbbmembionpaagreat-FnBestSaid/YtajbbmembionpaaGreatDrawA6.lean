/- DrawPodNormal: a pod that may be wrong, its rows turned. No condition. -/
import Derived.Test.YtajbbmembionpaaGreatDrawA5
namespace Go.Proofs.YtajbbmembionpaaGreat
open Go.ChangeShapes Go.WideShapes Go.ChangeAt Go.RowKit
set_option linter.unusedVariables false
set_option linter.unusedSimpArgs false
set_option maxHeartbeats 4000000
set_option maxRecDepth 100000
theorem Sl.tail {α:Type} [ba α] {w:World} {xs:List α} {A:Option Addr} {c:Nat} {F:List Nat} (h:Sl w xs A c F) (hl:1 < xs.length) :
 ∃b o F',A = some ⟨b,o,none⟩∧(∀y∈F',y∈F)∧Sl w xs.tail (some ⟨b,o+ba.size α,none⟩) (c - 1) F'∧xs.length≤c:=by
 cases xs with
 | nil=>simp at hl
 | cons x xs =>
   obtain ⟨A',c',G,ds,e0,h1,h2,hc,h0⟩:=h;simp only [List.cons.injEq,Value.slice.injEq,and_true,true_and] at e0;obtain ⟨rfl,rfl⟩:=e0;rcases h0 with ⟨h3,_⟩ | ⟨b,o',hA,rfl,hb,bC⟩
   ·cases h3
   ·obtain ⟨c1,c2,F1,F2,rfl,rfl,hr,bX⟩:=hc;refine ⟨b,o',b :: F2,hA,fun y hy=>?_,⟨_,_,F2,c2,rfl,?_,?_,bX,.inr ⟨b,_,rfl,rfl,hb,fun j u hu=>?_⟩⟩,h1⟩
    ·rcases List.mem_cons.1 hy with rfl | hy
     ·exact List.mem_cons_self
     ·exact List.mem_cons_of_mem _ (List.mem_append_right _ hy)
    ·simp only [List.length_cons,List.tail_cons] at *;omega
    ·omega
    ·have hlc:=ba.len hr;have:=bC (c1.length+j) u (by rw [List.getElem?_append_right J,Nat.add_sub_cancel_left];exact hu);rwa [hlc,← Nat.add_assoc] at this
theorem cB {α:Type} [ba α] {P:Program} {t e:TypeId} {z:Value} {size bytes:Nat} (hE:DL P t e z size bytes) (hd:ba.size α = size) {o:Oper} {a:Act} {K:Act→World→Prop} {Q:Exit→Act→World→Prop} (s x:Operand)
 (ho:o.op = .call { callee:=.builtin .append,args:=#[s,x],argTypes:=#[t,t] })
 (w:World) (base:Nat) (v:Value) (n:Nat) (xs:List Value) (bd:w.ownsRow base e size v n xs) (hs:a.eval s = v)
 (ys:List α) (ad:Addr) (c m:Nat) (F:List Nat) (ju:Sl w ys (some ad) c F) (hm:ys.length = m) (hx:a.eval x = .slice (some ad) m c)
 (hn:n+ys.length≤2097152) (n9:bytes≤4096) (cP:base≤w.heap.size)
 (h:∀v' w' ds G,jo w ys ds G→(∀b∈G,b∈F)→w'.ownsRow base e size v' (n+ys.length) (xs++ds)→w.grownBy w' v.ownBlock→(v'.ownBlock = v.ownBlock∨v'.ownBlock = some w.heap.size)→K (a.put o.dst v') w'):o.wp P a w K Q:=by
 subst hd;subst hm;obtain ⟨ht,hi0,mb,gg⟩:=hE;obtain ⟨i,hi,hz,hsize,hb⟩:=info_parts hi0;have fL:(n+ys.length) * bytes≤2097152 * 4096:=Nat.mul_le_mul hn n9;obtain ⟨A',c',G,ds,e0,h1,h2,hc,h0⟩:=ju;simp only [List.cons.injEq,Value.slice.injEq,and_true,true_and] at e0;obtain ⟨rfl,rfl⟩:=e0;have hG:∀b∈G,b∈F:=by
  exact GK
 have bC:∀j u,ds[j]? = some u→w.cell? (ad.add j) = some u:=by
  intro j u hu;rcases h0 with ⟨rfl,rfl⟩ | ⟨b,o',hA,rfl,hb,bC⟩
  ·obtain ⟨rfl,rfl⟩:=hc;simp at hu
  ·simp only [Option.some.injEq] at hA;subst hA;exact GV
 obtain ⟨v',w',hr,g2,g3,g4,g5⟩:=run_append_own_at (P:=P) w base t o.type e i z (ba.size α) bytes ht hi hz hsize hb mb gg v n xs bd ad ys.length c ds hc.len bC hc.one lA J cP;unfold Oper.wp execOp;simp only [ho,resolve,invoke,builtin,Sem.run_bind,Sem.run_pure,Result.andThen_ok,List.map_toArray,List.map_cons,List.map_nil,hs,hx,hr];exact h v' w' ds G hc hG g2 g3 g5
theorem Sl.q' {α:Type} [ba α] {w:World} {B:Nat} {xs:List α} {ds:List Value} {G:List Nat} {e:TypeId} {v:Value} (h0:w.ownsRow B e (ba.size α) v xs.length ds) (h:jo w xs ds G) :
 ∃A c F,v = .slice A xs.length c∧Sl w xs A c F∧∀y∈F,y∈G∨v.ownBlock = some y:=by
 rcases h0 with ⟨hl,⟨rfl,hn⟩ | ⟨g,cap,dy,rfl,hb,hh,eM,hm,cA,ht⟩⟩
 ·obtain rfl:xs = []:=List.eq_nil_of_length_eq_zero hn;exact ⟨none,0,[],rfl,Sl.nil w none 0 (Nat.zero_le _),fun y hy=>by cases hy⟩
 ·have hg:g < w.heap.size:=by
   exact zk
  refine ⟨_,cap,g :: G,rfl,⟨_,cap,G,ds,rfl,eM,hm,h,.inr ⟨g,0,rfl,rfl,hg,fun j u hu=>?_⟩⟩,fun y hy=>?_⟩
  ·exact za
  ·rcases List.mem_cons.1 hy with rfl | hy
   ·exact .inr rfl
   ·exact .inl hy
theorem Sl.one {α:Type} [ba α] {w:World} {x:α} {b:Nat} {cs:List Value} {F:List Nat} (hr:rd w x cs F) (hb:oG w b cs):Sl w [x] (some ⟨b,0,none⟩) 1 (b :: F) :=
 ⟨_,1,F,cs,rfl,Nat.le_refl _,by unfold maxLen;omega,by have:=jo.single hr;exact this,.inr ⟨b,0,rfl,rfl,hb.lt,fun j u hu=>by rw [Nat.zero_add];exact hb.cell hu⟩⟩
theorem jo.keep {α:Type} [ba α] {w w':World} {xs:List α} {ds:List Value} {G:List Nat} (h:jo w xs ds G) (hb:Below w.heap.size w w'):jo w' xs ds G:=h.frame (fun b hm=>hb.block b (h.lt b hm)) hb.size
theorem te {α:Type} (f:α→Nat) {xs:List α} (h:0 < xs.length):kL f (xs.tail++[xs[0]]) = kL f xs:=by
 cases xs with
 | nil=>simp at h
 | cons x xs=>rw [ez];unfold kL;simp;omega
theorem hZ (w:World) (A:Option Addr) (n cap:Nat) (hn:(n:Int)≤1048576) (cE:∀k,k < n→∃(g o:Nat) (v:Int),A = some ⟨g,o,none⟩∧g < w.heap.size∧w.cell? ⟨g,o+k,none⟩ = some (.int .u8 v)∧0≤v∧v≤255) :
 Calls Tryz.prog 8 #[.slice A n cap] w fun e w'=>∃(x:nI) (cs:List Value) (G:List Nat),e = .returned (.agg cs.toArray)∧rd w' x cs G∧x.wt≤2000∧Below w.heap.size w w':=by
 have HS:=I cE;clear cE;go_enter Tryz.func8,Tryz.ntmps8;go_wp2_with fail
 refine (WS _ A n cap hn (fun k hk=>?_)).mono ?_
 ·exact GG
 rintro e w1 ⟨c,rfl,hc,H1,bo⟩;have cg:=bo.size;simp at cg hc;have HX:=I ((oG.new w [.string ⟨#[]⟩,.slice none 0 0,.int .i64 0,.int .i64 0,.int .i64 0,.slice none 0 0,.slice none 0 0] 35).ext bo);have HB:=I (ah bS bo:Below w.heap.size w w1);have HC:=I H1;clear H1 bo HS;go_wp2_with fail
 refine (m' _ c A n cap HC.out).mono ?_;rintro e w2 ⟨x,cs,G,rfl,hG,hw,H2,b4⟩;obtain ⟨nm,ls,ca,me,ra,ns,ts⟩:=x;obtain ⟨Al,cl,Gl,An,cn,Gn,At,ct,Gt,aw,hl,hnd,ht,il,nv,fl,ix⟩:=hG.mU;dsimp only at aw hl hnd ht il nv fl ix;subst aw;have HI:=I (And.intro il (And.intro nv (And.intro fl ix)));have HW:=I (show nm.size+kL ao.wt ls+kL aD.wt ns+kL bH.wt ts≤2000 from hw);have RW:=b4.size;have NH:=I ((HX.out.bI b4 J).ext (ak (aj _) (.cells ([.string nm,.slice Al ls.length cl,.int .i64 ca,.int .i64 me,.int .i64 ra,.slice An ns.length cn,.slice At ts.length ct]:List Value).toArray 35)));have kp:=I (oG.new w2 [.string nm,.slice Al ls.length cl,.int .i64 ca,.int .i64 me,.int .i64 ra,.slice An ns.length cn,.slice At ts.length ct] 35);have vA:=I (ak (HB.out.trans (b4.below (B:=w.heap.size) (fun b hb=>by rw [List.mem_singleton] at hb;omega) J)) (.cells ([.string nm,.slice Al ls.length cl,.int .i64 ca,.int .i64 me,.int .i64 ra,.slice An ns.length cn,.slice At ts.length ct]:List Value).toArray 35));have Ld:=I ((hl.ext (ak (aj _) (.cells ([.string nm,.slice Al ls.length cl,.int .i64 ca,.int .i64 me,.int .i64 ra,.slice An ns.length cn,.slice At ts.length ct]:List Value).toArray 35))).mono (Nat.zero_le _));have Lf:=I ((hnd.ext (ak (aj _) (.cells ([.string nm,.slice Al ls.length cl,.int .i64 ca,.int .i64 me,.int .i64 ra,.slice An ns.length cn,.slice At ts.length ct]:List Value).toArray 35))).mono (Nat.zero_le _));have Lg:=I ((ht.ext (ak (aj _) (.cells ([.string nm,.slice Al ls.length cl,.int .i64 ca,.int .i64 me,.int .i64 ra,.slice An ns.length cn,.slice At ts.length ct]:List Value).toArray 35))).mono (Nat.zero_le _));have BL:=I (show ∀b∈Gl,b≠w.heap.size∧b≠w2.heap.size from fun b hb=>by have h1:=hl.base b hb;have h2:=hl.lt b hb;omega);have BN:=I (show ∀b∈Gn,b≠w.heap.size∧b≠w2.heap.size from fun b hb=>by have h1:=hnd.base b hb;have h2:=hnd.lt b hb;omega);have BT:=I (show ∀b∈Gt,b≠w.heap.size∧b≠w2.heap.size from fun b hb=>by have h1:=ht.base b hb;have h2:=ht.lt b hb;omega);have nr:w.heap.size < w2.heap.size:=by omega
 have Sh:w2.heap.size < (w2.alloc (.cells ([.string nm,.slice Al ls.length cl,.int .i64 ca,.int .i64 me,.int .i64 ra,.slice An ns.length cn,.slice At ts.length ct]:List Value).toArray 35)).heap.size:=by simp
 have y1:=kp.out.cell (i:=1) (u:=.slice Al ls.length cl) rfl;have bR:ls.length≤2000:=by have:=gJ ao.wt ls;have:=HW.out;omega
 have Z4:ns.length≤2000:=by have:=gJ aD.wt ns;have:=HW.out;omega
 clear hG hw H2 b4 HB HX HC hl hnd ht il nv fl ix;go_upto_region 3 with fail
 generalize w2.alloc (.cells ([.string nm,.slice Al ls.length cl,.int .i64 ca,.int .i64 me,.int .i64 ra,.slice An ns.length cn,.slice At ts.length ct]:List Value).toArray 35) = w3 at *;by_cases fq:1 < ls.length
 case' pos =>
  have IH:(1:Int) < ls.length:=by omega
  have Sk:(0:Int) < ls.length:=by omega
  go_wp2_with fail
  obtain ⟨bl,ol,Ft,rfl,hft,gL,lO⟩:=Sl.tail (show Sl w3 ls Al cl Gl from Ld.out.rd) fq;have Cl:(ls.length:Int)≤cl:=by omega
  have cU:¬cl = 1:=by omega
  have Nw:(1:Int)≤ls.length:=by omega
  have va:0 < ls.length:=by omega
  have tw:(ls.tail++[ls[0]]).length = ls.length:=by simp;omega
  obtain ⟨b',o',ck,Fk,hA',gT,ga,ix,_,bC⟩:=(show Sl w3 ls (some ⟨bl,ol,none⟩) cl Gl from Ld.out.rd).get (k:=0) J;simp only [Option.some.injEq,Addr.mk.injEq,and_true] at hA';obtain ⟨rfl,rfl⟩:=hA';obtain ⟨aw,su,b8,kP⟩:=vO ix;subst aw su;have sE:=I ix;have oW:=I gL;have q0:w3.cell? ⟨bl,ol,none⟩ = some (.string ls[0].key):=by have:=bC 0 _ rfl;simpa using this
  have q1:w3.cell? ⟨bl,ol+1,none⟩ = some (.string ls[0].value):=by have:=bC 1 _ rfl;simpa using this
  clear gL bC ix;refine ZT (fun w'=>iu w3 w') #[true,true,true,true,true,true,true,true,true,true,true,true,false] 12 U' U' (aA (aj _)) ?_;refine pm (fun a0 a' w'=>∃(A4:Option Addr) (c4:Nat) (G4:List Nat) (v0 v1 v2 v3 v4 v5 v6 v7 v8 v9 v10 v11:Value),a' = (Act.put (Act.put (Act.put (Act.put (Act.put (Act.put (Act.put (Act.put (Act.put (Act.put (Act.put (Act.put a0 (some 14) v0) (some 15) v1) (some 16) v2) (some 18) v3) (some 19) v4) (some 20) v5) (some 21) v6) (some 13) v7) (some 17) v8) (some 22) v9) (some 23) v10) (some 24) v11)∧nN [w2.heap.size] w3 w'∧oG w' w2.heap.size [.string nm,.slice A4 ls.length c4,.int .i64 ca,.int .i64 me,.int .i64 ra,.slice An ns.length cn,.slice At ts.length ct]∧cS w' 0 (ls.tail++[ls[0]]) [.slice A4 ls.length c4] G4∧(∀b∈G4,b≠w.heap.size∧b≠w2.heap.size)) ?_ ?_;rotate_left
  ·intro HK;have aE:Below w3.heap.size w3 w3.drew:=aA (aj _)
   refine bO 1 _ O U' H' aE (Or.inl ⟨rfl,fun wq hq=>by
    have dC:=(aB hq).1;go_simp
    try rfl⟩) ?_
   try simp only [Act.put,pz]
   refine bO 2 _ O U' H' aE (Or.inl ⟨rfl,fun wq hq=>by
    have dC:=(aB hq).1;go_simp
    try rfl⟩) ?_
   try simp only [Act.put,pz]
   refine bO 3 _ O U' H' aE (Or.inl ⟨rfl,fun wq hq=>by
    have dC:=(aB hq).1;go_simp
    try rfl⟩) ?_
   try simp only [Act.put,pz]
   refine bO 5 _ O U' H' aE (Or.inl ⟨rfl,fun wq hq=>by
    have dC:=(aB hq).1;go_simp
    try rfl⟩) ?_
   try simp only [Act.put,pz]
   refine bO 6 _ O U' H' aE (Or.inl ⟨rfl,fun wq hq=>by
    have dC:=(aB hq).1;go_simp
    try rfl⟩) ?_
   try simp only [Act.put,pz]
   refine bO 7 _ O U' H' aE (Or.inl ⟨rfl,fun wq hq=>by
    have dC:=(aB hq).1;go_simp
    try rfl⟩) ?_
   try simp only [Act.put,pz]
   refine bO 8 _ O U' H' aE (Or.inl ⟨rfl,fun wq hq=>by
    have dC:=(aB hq).1;go_simp
    try rfl⟩) ?_
   try simp only [Act.put,pz]
   generalize w3.drew = wd at *;have Jc:=aE.size;have Ns:=I (oW.out.ext aE);refine j' 0 9 O O U' O O (fun K hK=>?_) (fun K hK=>?_)
   ·go_simp;have R0:=vP (D9 wd 67 2 wd.heap.size rfl) aE.size;try simp only [World.size_alloc] at R0
    replace aE:=ak aE (.cells #[] 67);refine hK _ _ aE ?_;try simp only [Act.put,pz]
    clear hK K;refine j' 4 9 O O U' O O (fun K hK=>?_) (fun K hK=>?_)
    ·refine cB k9 rfl _ _ O (wd.alloc (.cells #[] 67)) w3.heap.size _ 0 [] R0 O ls.tail ⟨bl,ol+2,none⟩ (cl - 1) (ls.length - 1) Ft (oW.out.ext aE) S' O (by simp;omega) J aE.size ?_;intro v4 w4 CM G4 ui _ R4 ia ky;have nd:=lS R0 ia aE aE.size;refine hK _ _ nd ?_;try simp only [Act.put,pz]
     clear hK K;refine cq 9 O U' O (fun K hK=>?_);go_simp;have lW:=oG.new w4 [.string ls[0].key,.string ls[0].value] 67;try simp only [World.size_alloc] at lW
     have tf:=I lW;clear lW;replace aE:=ak nd (.cells ([.string ls[0].key,.string ls[0].value]:List Value).toArray 67);refine hK _ _ aE ?_;try simp only [Act.put,pz]
     clear hK K;have wJ:=I (tf.out);refine cq 10 O U' O (fun K hK=>?_);refine cB k9 rfl _ _ O (w4.alloc (.cells ([.string ls[0].key,.string ls[0].value]:List Value).toArray 67)) w3.heap.size _ (0+ls.tail.length) ([]++CM) (R4.alloc _) O [ls[0]] ⟨w4.heap.size,0,none⟩ 1 1 [w4.heap.size] (Sl.one (aZ sE.out aE) wJ.out) rfl O (by simp;omega) J aE.size ?_;intro v6 w6 CN G6 mv _ R6 fi gf;have iX:=lS (R4.alloc _) fi aE aE.size;exact yd
    ·go_simp;have lW:=oG.new (wd.alloc (.cells #[] 67)) [.string ls[0].key,.string ls[0].value] 67;try simp only [World.size_alloc] at lW
     have tf:=I lW;clear lW;replace aE:=ak aE (.cells ([.string ls[0].key,.string ls[0].value]:List Value).toArray 67);refine hK _ _ aE ?_;try simp only [Act.put,pz]
     clear hK K;refine cq 4 O U' O (fun K hK=>?_);refine cB k9 rfl _ _ O ((wd.alloc (.cells #[] 67)).alloc (.cells ([.string ls[0].key,.string ls[0].value]:List Value).toArray 67)) w3.heap.size _ 0 [] (R0.alloc _) O ls.tail ⟨bl,ol+2,none⟩ (cl - 1) (ls.length - 1) Ft (oW.out.ext aE) S' O (by simp;omega) J aE.size ?_;intro v4 w4 CM G4 ui _ R4 ia ky;have nd:=lS (R0.alloc _) ia aE aE.size;refine hK _ _ nd ?_;try simp only [Act.put,pz]
     clear hK K;have tY:=I (tf.out.keep (ia.block _ tf.out.lt (by intro e;simp [Value.ownBlock] at e)));replace aE:=nd;have wJ:=I (tY.out);refine cq 10 O U' O (fun K hK=>?_);refine cB k9 rfl _ _ O w4 w3.heap.size _ (0+ls.tail.length) ([]++CM) R4 O [ls[0]] ⟨(wd.heap.size+1),0,none⟩ 1 1 [(wd.heap.size+1)] (Sl.one (aZ sE.out aE) wJ.out) rfl O (by simp;omega) J aE.size ?_;intro v6 w6 CN G6 mv _ R6 fi gf;have iX:=lS R4 fi aE aE.size;exact yd
   ·go_simp;have lW:=oG.new wd [.string ls[0].key,.string ls[0].value] 67;try simp only [World.size_alloc] at lW
    have tf:=I lW;clear lW;replace aE:=ak aE (.cells ([.string ls[0].key,.string ls[0].value]:List Value).toArray 67);refine hK _ _ aE ?_;try simp only [Act.put,pz]
    clear hK K;refine cq 0 O U' O (fun K hK=>?_);go_simp;have R0:=vP (D9 (wd.alloc (.cells ([.string ls[0].key,.string ls[0].value]:List Value).toArray 67)) 67 2 (wd.alloc (.cells ([.string ls[0].key,.string ls[0].value]:List Value).toArray 67)).heap.size rfl) aE.size;try simp only [World.size_alloc] at R0
    replace aE:=ak aE (.cells #[] 67);refine hK _ _ aE ?_;try simp only [Act.put,pz]
    clear hK K;refine cq 4 O U' O (fun K hK=>?_);refine cB k9 rfl _ _ O ((wd.alloc (.cells ([.string ls[0].key,.string ls[0].value]:List Value).toArray 67)).alloc (.cells #[] 67)) w3.heap.size _ 0 [] R0 O ls.tail ⟨bl,ol+2,none⟩ (cl - 1) (ls.length - 1) Ft (oW.out.ext aE) S' O (by simp;omega) J aE.size ?_;intro v4 w4 CM G4 ui _ R4 ia ky;have nd:=lS R0 ia aE aE.size;refine hK _ _ nd ?_;try simp only [Act.put,pz]
    clear hK K;have tY:=I ((tf.out.ext (ak (aj _) _)).keep (ia.block _ (tf.out.ext (ak (aj _) _)).lt (by intro e;simp [Value.ownBlock] at e)));replace aE:=nd;have wJ:=I (tY.out);refine cq 10 O U' O (fun K hK=>?_);refine cB k9 rfl _ _ O w4 w3.heap.size _ (0+ls.tail.length) ([]++CM) R4 O [ls[0]] ⟨wd.heap.size,0,none⟩ 1 1 [wd.heap.size] (Sl.one (aZ sE.out aE) wJ.out) rfl O (by simp;omega) J aE.size ?_;intro v6 w6 CN G6 mv _ R6 fi gf;have iX:=lS R4 fi aE aE.size;exact yd
  rintro _ w4 ⟨A4,c4,G4,_,_,_,_,_,_,_,_,_,_,_,_,rfl,Py,hY4,hG4,wD⟩;obtain ⟨ks,eV⟩:∃ks,ks = ls.tail++[ls[0]]:=⟨_,rfl⟩;have bB:ls.length = ks.length:=by rw [eV,tw]
  have fo:kL ao.wt ks = kL ao.wt ls:=by rw [eV];exact te _ va
  rw [← eV] at hG4;rw [bB] at hG4 hY4;have xF:=I (NH.out.bI Py J);have kW:=I hY4;have Lh:=I hG4;have NI:=I wD;have iF:=I (vA.out.trans (Py.below (B:=w.heap.size) (fun b hb=>by rw [List.mem_singleton] at hb;omega) J));have CT:=I (Lf.out.keep (fun b hb=>Py.block b (Lf.out.lt b hb) (by rw [List.mem_singleton];exact (BN.out b hb).2)) Py.size);have Li:=I (Lg.out.keep (fun b hb=>Py.block b (Lg.out.lt b hb) (by rw [List.mem_singleton];exact (BT.out b hb).2)) Py.size);have tY:=I (show nm.size+kL ao.wt ks+kL aD.wt ns+kL bH.wt ts≤2000 by rw [fo];exact HW.out);have Wy:=Py.size;have Sm:w2.heap.size < w4.heap.size:=by omega
  have y5:=kW.out.cell (i:=5) (u:=.slice An ns.length cn) rfl;clear eV bB fo hG4 hY4 wD Py NH kp vA Ld Lf Lg BL HW y1 q0 q1 sE oW hft Wy Sh tw va Nw cU Cl Sk IH lO fq gT ga b8 kP;skip
 case' neg =>
  have IH:¬(1:Int) < ls.length:=by omega
  obtain ⟨w4,hw4⟩:∃w4,w4 = w3:=⟨_,rfl⟩;subst hw4;have xF:=NH;have kW:=kp;have Lh:=Ld;have NI:=BL;have iF:=vA;have CT:=Lf;have Li:=Lg;have tY:=HW;have Sm:=Sh;have y5:=kW.out.cell (i:=5) (u:=.slice An ns.length cn) rfl;clear NH kp vA Ld Lf Lg BL HW Sh;obtain ⟨ks,eV⟩:∃ks,ks = ls:=⟨_,rfl⟩;subst eV;obtain ⟨A4,r8⟩:∃A4,A4 = Al:=⟨_,rfl⟩;subst r8;obtain ⟨c4,fh⟩:∃c4,c4 = cl:=⟨_,rfl⟩;subst fh
 all_goals
  by_cases hnn:1 < ns.length
  ·have Z5:(1:Int) < ns.length:=J;have Sn:(0:Int) < ns.length:=J;have Z6:∀x∈ns,(x.values.length:Int)≤1048576:=fun x hx=>by
    have h1:=Bq (f:=aD.wt) hx;have h2:=tY.out;have h3:x.wt = x.key.size+kL ByteArray.size x.values:=rfl;have h4:=gJ ByteArray.size x.values;omega
   have Sp:=I Z6;clear Z6;go_wp2_with fail
   obtain ⟨bl,ol,Ft,rfl,hft,gL,lO⟩:=Sl.tail (show Sl w4 ns An cn Gn from CT.out.rd) hnn;have Cl:(ns.length:Int)≤cn:=J;have cU:¬cn = 1:=J;have Nw:(1:Int)≤ns.length:=J;have va:0 < ns.length:=J;have tw:(ns.tail++[ns[0]]).length = ns.length:=(by simp;omega);obtain ⟨b',o',ck,Fk,hA',gT,ga,ix,su,bC⟩:=(show Sl w4 ns (some ⟨bl,ol,none⟩) cn Gn from CT.out.rd).get (k:=0) J;simp only [Option.some.injEq,Addr.mk.injEq,and_true] at hA';obtain ⟨rfl,rfl⟩:=hA';obtain ⟨Av,cv,Fv,aw,rfl,b8,eN,hvals⟩:=og ix;subst aw;have sE:=I ix;have oW:=I gL;have Sq:=I su;have q0:w4.cell? ⟨bl,ol,none⟩ = some (.string ns[0].key):=(by have:=bC 0 _ rfl;simpa using this);have q1:w4.cell? ⟨bl,ol+1,none⟩ = some (.int .i64 ns[0].op):=(by have:=bC 1 _ rfl;simpa using this);have q2:w4.cell? ⟨bl,ol+2,none⟩ = some (.slice Av ns[0].values.length cv):=(by have:=bC 2 _ rfl;simpa using this);clear gL bC ix su hvals;refine ZT (fun w'=>iu w4 w') #[true,true,true,true,true,true,true,true,true,true,true,false] 11 U' U' (aA (aj _)) ?_;refine pm (fun a0 a' w'=>∃(A6:Option Addr) (c6:Nat) (G6:List Nat) (u0 u1 u2 u3 u4 u5 u6 u7 u8 u9 u10:Value),a' = (Act.put (Act.put (Act.put (Act.put (Act.put (Act.put (Act.put (Act.put (Act.put (Act.put (Act.put a0 (some 29) u0) (some 30) u1) (some 31) u2) (some 33) u3) (some 34) u4) (some 35) u5) (some 36) u6) (some 32) u7) (some 37) u8) (some 38) u9) (some 39) u10)∧nN [w2.heap.size] w4 w'∧oG w' w2.heap.size [.string nm,.slice A4 ks.length c4,.int .i64 ca,.int .i64 me,.int .i64 ra,.slice A6 ns.length c6,.slice At ts.length ct]∧cS w' 0 (ns.tail++[ns[0]]) [.slice A6 ns.length c6] G6∧(∀b∈G6,b≠w.heap.size∧b≠w2.heap.size)) ?_ ?_;rotate_left
   ·intro HK;have aE:Below w4.heap.size w4 w4.drew:=aA (aj _)
    refine bO 0 _ O U' H' aE (Or.inl ⟨rfl,fun wq hq=>by
     have dC:=(aB hq).1;go_simp
     try rfl⟩) ?_
    try simp only [Act.put,pz]
    refine bO 1 _ O U' H' aE (Or.inl ⟨rfl,fun wq hq=>by
     have dC:=(aB hq).1;go_simp
     try rfl⟩) ?_
    try simp only [Act.put,pz]
    refine bO 2 _ O U' H' aE (Or.inl ⟨rfl,fun wq hq=>by
     have dC:=(aB hq).1;go_simp
     try rfl⟩) ?_
    try simp only [Act.put,pz]
    refine bO 4 _ O U' H' aE (Or.inl ⟨rfl,fun wq hq=>by
     have dC:=(aB hq).1;go_simp
     try rfl⟩) ?_
    try simp only [Act.put,pz]
    refine bO 5 _ O U' H' aE (Or.inl ⟨rfl,fun wq hq=>by
     have dC:=(aB hq).1;go_simp
     try rfl⟩) ?_
    try simp only [Act.put,pz]
    refine bO 6 _ O U' H' aE (Or.inl ⟨rfl,fun wq hq=>by
     have dC:=(aB hq).1;go_simp
     try rfl⟩) ?_
    try simp only [Act.put,pz]
    refine bO 7 _ O U' H' aE (Or.inl ⟨rfl,fun wq hq=>by
     have dC:=(aB hq).1;go_simp
     try rfl⟩) ?_
    try simp only [Act.put,pz]
    generalize w4.drew = wd at *;have Jc:w4.heap.size≤wd.heap.size:=aE.size;refine j' 3 8 O O U' O O (fun K hK=>?_) (fun K hK=>?_)
    ·go_simp;have nv:=MN ns.tail (some ⟨bl,ol+3,none⟩) (cn - 1) Ft wd (oW.out.ext aE) (by simp;omega) (fun x hx=>Sp.out x (List.mem_of_mem_tail hx));rw [List.length_tail] at nv;refine nv.mono ?_;rintro e w5 ⟨v5,ds5,F5,rfl,hR5,hcs5,hne5,br⟩;have mW:=I hR5;have vW:=I hcs5;have Ss:=I hne5;have Cn:w4.heap.size≤wd.heap.size:=aE.size;have Es:=br.size;replace aE:=ah aE br;have et:∀y,v5.ownBlock = some y→wd.heap.size≤y∧y < w5.heap.size:=fun y hy=>hR5.lt y hy;refine hK _ _ aE ?_;try simp only [Act.put,pz]
     clear hK K;clear nv hR5 hcs5 hne5;refine cq 8 O U' O (fun K hK=>?_);go_simp;have lW:=oG.new w5 [.string ns[0].key,.int .i64 ns[0].op,.slice Av ns[0].values.length cv] 70;try simp only [World.size_alloc] at lW
     have tf:=I lW;clear lW;replace aE:=ak aE (.cells ([.string ns[0].key,.int .i64 ns[0].op,.slice Av ns[0].values.length cv]:List Value).toArray 70);refine hK _ _ aE ?_;try simp only [Act.put,pz]
     clear hK K;have mW:=I (mW.out.alloc (.cells ([.string ns[0].key,.int .i64 ns[0].op,.slice Av ns[0].values.length cv]:List Value).toArray 70));have vW:=I (vW.out.ext (ak (aj _) (.cells ([.string ns[0].key,.int .i64 ns[0].op,.slice Av ns[0].values.length cv]:List Value).toArray 70)));have HQ:=I (tf.out);have fL:=aE.size;refine cq 9 O U' O (fun K hK=>?_);refine cB pu rfl _ _ O (w5.alloc (.cells ([.string ns[0].key,.int .i64 ns[0].op,.slice Av ns[0].values.length cv]:List Value).toArray 70)) _ _ (ns.length - 1) ds5 mW.out O [ns[0]] ⟨w5.heap.size,0,none⟩ 1 1 (w5.heap.size :: Fk) (Sl.one (aZ sE.out aE) HQ.out) rfl O (by simp;omega) J (by have:=br.size;simp only [World.size_alloc] at *;omega) ?_;intro v6 w6 CN G6 mv Ug R6 fi gf;have iX:Below w4.heap.size w4 w6:=lS (vP mW.out Cn) fi aE fL;have h1:=(vW.out.keep (fun y hy=>fi.block y (vW.out.lt y hy) (fun hv=>Ss.out y hv.symm hy)) fi.size).rd;have N6:∀y∈G6,y = w5.heap.size∨y∈Gn:=fun y hy=>by
      rcases List.mem_cons.1 (Ug y hy) with h | h
      ·exact .inl h
      ·exact .inr (Sq.out y h)
     exact EL
    ·go_simp;have lW:=oG.new wd [.string ns[0].key,.int .i64 ns[0].op,.slice Av ns[0].values.length cv] 70;try simp only [World.size_alloc] at lW
     have tf:=I lW;clear lW;replace aE:=ak aE (.cells ([.string ns[0].key,.int .i64 ns[0].op,.slice Av ns[0].values.length cv]:List Value).toArray 70);refine hK _ _ aE ?_;try simp only [Act.put,pz]
     clear hK K;refine cq 3 O U' O (fun K hK=>?_);go_simp;have nv:=MN ns.tail (some ⟨bl,ol+3,none⟩) (cn - 1) Ft (wd.alloc (.cells ([.string ns[0].key,.int .i64 ns[0].op,.slice Av ns[0].values.length cv]:List Value).toArray 70)) (oW.out.ext aE) (by simp;omega) (fun x hx=>Sp.out x (List.mem_of_mem_tail hx));rw [List.length_tail] at nv;refine nv.mono ?_;rintro e w5 ⟨v5,ds5,F5,rfl,hR5,hcs5,hne5,br⟩;have mW:=I hR5;have vW:=I hcs5;have Ss:=I hne5;have Cn:w4.heap.size≤(wd.alloc (.cells ([.string ns[0].key,.int .i64 ns[0].op,.slice Av ns[0].values.length cv]:List Value).toArray 70)).heap.size:=aE.size;have Es:=br.size;replace aE:=ah aE br;have et:∀y,v5.ownBlock = some y→(wd.alloc (.cells ([.string ns[0].key,.int .i64 ns[0].op,.slice Av ns[0].values.length cv]:List Value).toArray 70)).heap.size≤y∧y < w5.heap.size:=fun y hy=>hR5.lt y hy;refine hK _ _ aE ?_;try simp only [Act.put,pz]
     clear hK K;clear nv hR5 hcs5 hne5;have HQ:=I ((tf.out.ext br));have fL:=aE.size;refine cq 9 O U' O (fun K hK=>?_);refine cB pu rfl _ _ O w5 _ _ (ns.length - 1) ds5 mW.out O [ns[0]] ⟨wd.heap.size,0,none⟩ 1 1 (wd.heap.size :: Fk) (Sl.one (aZ sE.out aE) HQ.out) rfl O (by simp;omega) J (by have:=br.size;simp only [World.size_alloc] at *;omega) ?_;intro v6 w6 CN G6 mv Ug R6 fi gf;have iX:Below w4.heap.size w4 w6:=lS (vP mW.out Cn) fi aE fL;have h1:=(vW.out.keep (fun y hy=>fi.block y (vW.out.lt y hy) (fun hv=>Ss.out y hv.symm hy)) fi.size).rd;have N6:∀y∈G6,y = wd.heap.size∨y∈Gn:=fun y hy=>by
      rcases List.mem_cons.1 (Ug y hy) with h | h
      ·exact .inl h
      ·exact .inr (Sq.out y h)
     exact EL
   rintro _ w5 ⟨A6,c6,G6,_,_,_,_,_,_,_,_,_,_,_,rfl,hU5,DB,hG5,Dc⟩;obtain ⟨ms,hms⟩:∃ms,ms = ns.tail++[ns[0]]:=⟨_,rfl⟩;have bB:ns.length = ms.length:=(by rw [hms,tw]);have fo:kL aD.wt ms = kL aD.wt ns:=(by rw [hms];exact te _ va);rw [← hms] at hG5;rw [bB] at hG5 DB;have xx:=xF.out.bI hU5 J;have yy:=DB;have HL5:=I (Lh.out.keep (fun b hb=>hU5.block b (Lh.out.lt b hb) (by rw [List.mem_singleton];exact (NI.out b hb).2)) hU5.size);have RY:=I hG5;have HT5:=I (Li.out.keep (fun b hb=>hU5.block b (Li.out.lt b hb) (by rw [List.mem_singleton];exact (BT.out b hb).2)) hU5.size);have BM:=I Dc;have Lj:=I (iF.out.trans (hU5.below (B:=w.heap.size) (fun b hb=>by rw [List.mem_singleton] at hb;omega) J));have DD:=I (show nm.size+kL ao.wt ks+kL aD.wt ms+kL bH.wt ts≤2000 by rw [fo];exact tY.out);obtain ⟨jl,azr,azs,azt,azu,azv,azw,azx,azy,azz,azA,azB,aEY,aEZ⟩:=fe xx;obtain ⟨jC,aAC,aAD,aAE,aAF,aAG,aAH,aAI,aAJ,aAK,aAL,aAM,aE0,aE1⟩:=fe yy;clear xx yy hms bB fo hG5 DB Dc hU5 xF kW Lh CT Li iF tY y5 q0 q1 q2 sE oW Sq Sp hft tw va Nw cU Cl Sn Z5 lO hnn gT ga b8 eN;go_wp2;have hI:=HI.out;have hF:=kI NI.out BM.out BT.out;have hG:=cS.nw (nm:=nm) (a:=ca) (m:=me) (r:=ra) HL5.out RY.out HT5.out hI.1 hI.2.1 hI.2.2.1 hI.2.2.2;refine bodyPost_ret (v:=.agg #[.string nm,.slice A4 ks.length c4,.int .i64 ca,.int .i64 me,.int .i64 ra,.slice A6 ms.length c6,.slice At ts.length ct]) (by simp [results,Tryz.results8,go_sem, *]) rfl ?_
   first
    | exact ⟨⟨nm,ks,ca,me,ra,ms,ts⟩,_,_,rfl,(((((((hG.bs (p:=⟨w.heap.size,0,none⟩) (fun b hb=>(hF b hb).1) _).bs (p:=⟨w.heap.size,1,none⟩) (fun b hb=>(hF b hb).1) _).bs (p:=⟨w.heap.size,2,none⟩) (fun b hb=>(hF b hb).1) _).bs (p:=⟨w.heap.size,3,none⟩) (fun b hb=>(hF b hb).1) _).bs (p:=⟨w.heap.size,4,none⟩) (fun b hb=>(hF b hb).1) _).bs (p:=⟨w.heap.size,5,none⟩) (fun b hb=>(hF b hb).1) _).bs (p:=⟨w.heap.size,6,none⟩) (fun b hb=>(hF b hb).1) _).rd,DD.out,(aC (aC (aC (aC (aC (aC (aC Lj.out (Nat.le_refl _) _) (Nat.le_refl _) _) (Nat.le_refl _) _) (Nat.le_refl _) _) (Nat.le_refl _) _) (Nat.le_refl _) _) (Nat.le_refl _) _)⟩
    | exact ⟨⟨nm,ks,ca,me,ra,ms,ts⟩,_,rfl,⟨_,(((((((hG.bs (p:=⟨w.heap.size,0,none⟩) (fun b hb=>(hF b hb).1) _).bs (p:=⟨w.heap.size,1,none⟩) (fun b hb=>(hF b hb).1) _).bs (p:=⟨w.heap.size,2,none⟩) (fun b hb=>(hF b hb).1) _).bs (p:=⟨w.heap.size,3,none⟩) (fun b hb=>(hF b hb).1) _).bs (p:=⟨w.heap.size,4,none⟩) (fun b hb=>(hF b hb).1) _).bs (p:=⟨w.heap.size,5,none⟩) (fun b hb=>(hF b hb).1) _).bs (p:=⟨w.heap.size,6,none⟩) (fun b hb=>(hF b hb).1) _).rd⟩,DD.out,(aC (aC (aC (aC (aC (aC (aC Lj.out (Nat.le_refl _) _) (Nat.le_refl _) _) (Nat.le_refl _) _) (Nat.le_refl _) _) (Nat.le_refl _) _) (Nat.le_refl _) _) (Nat.le_refl _) _)⟩
  ·have Z5:¬(1:Int) < ns.length:=J;have xx:=xF.out;have yy:=kW.out;obtain ⟨jl,azr,azs,azt,azu,azv,azw,azx,azy,azz,azA,azB,aEY,aEZ⟩:=fe xx;obtain ⟨jC,aAC,aAD,aAE,aAF,aAG,aAH,aAI,aAJ,aAK,aAL,aAM,aE0,aE1⟩:=fe yy;clear xx yy xF kW;go_wp2;have hI:=HI.out;have hF:=kI NI.out BN.out BT.out;have hG:=cS.nw (nm:=nm) (a:=ca) (m:=me) (r:=ra) Lh.out CT.out Li.out hI.1 hI.2.1 hI.2.2.1 hI.2.2.2;refine bodyPost_ret (v:=.agg #[.string nm,.slice A4 ks.length c4,.int .i64 ca,.int .i64 me,.int .i64 ra,.slice An ns.length cn,.slice At ts.length ct]) (by simp [results,Tryz.results8,go_sem, *]) rfl ?_
   first
    | exact ⟨⟨nm,ks,ca,me,ra,ns,ts⟩,_,_,rfl,(((((((hG.bs (p:=⟨w.heap.size,0,none⟩) (fun b hb=>(hF b hb).1) _).bs (p:=⟨w.heap.size,1,none⟩) (fun b hb=>(hF b hb).1) _).bs (p:=⟨w.heap.size,2,none⟩) (fun b hb=>(hF b hb).1) _).bs (p:=⟨w.heap.size,3,none⟩) (fun b hb=>(hF b hb).1) _).bs (p:=⟨w.heap.size,4,none⟩) (fun b hb=>(hF b hb).1) _).bs (p:=⟨w.heap.size,5,none⟩) (fun b hb=>(hF b hb).1) _).bs (p:=⟨w.heap.size,6,none⟩) (fun b hb=>(hF b hb).1) _).rd,tY.out,(aC (aC (aC (aC (aC (aC (aC iF.out (Nat.le_refl _) _) (Nat.le_refl _) _) (Nat.le_refl _) _) (Nat.le_refl _) _) (Nat.le_refl _) _) (Nat.le_refl _) _) (Nat.le_refl _) _)⟩
    | exact ⟨⟨nm,ks,ca,me,ra,ns,ts⟩,_,rfl,⟨_,(((((((hG.bs (p:=⟨w.heap.size,0,none⟩) (fun b hb=>(hF b hb).1) _).bs (p:=⟨w.heap.size,1,none⟩) (fun b hb=>(hF b hb).1) _).bs (p:=⟨w.heap.size,2,none⟩) (fun b hb=>(hF b hb).1) _).bs (p:=⟨w.heap.size,3,none⟩) (fun b hb=>(hF b hb).1) _).bs (p:=⟨w.heap.size,4,none⟩) (fun b hb=>(hF b hb).1) _).bs (p:=⟨w.heap.size,5,none⟩) (fun b hb=>(hF b hb).1) _).bs (p:=⟨w.heap.size,6,none⟩) (fun b hb=>(hF b hb).1) _).rd⟩,tY.out,(aC (aC (aC (aC (aC (aC (aC iF.out (Nat.le_refl _) _) (Nat.le_refl _) _) (Nat.le_refl _) _) (Nat.le_refl _) _) (Nat.le_refl _) _) (Nat.le_refl _) _) (Nat.le_refl _) _)⟩
end Go.Proofs.YtajbbmembionpaaGreat
