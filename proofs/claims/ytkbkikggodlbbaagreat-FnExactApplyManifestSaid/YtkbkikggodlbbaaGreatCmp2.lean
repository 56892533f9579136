/- How strings.Compare and the order of strings agree; short rows of ints. No condition. -/
import Derived.Test.YtkbkikggodlbbaaGreatGr
import Derived.Test.YtkbkikggodlbbaaGreatKit
import Derived.Test.YtkbkikggodlbbaaGreatAppendAt
import Derived.Test.YtkbkikggodlbbaaGreatRegionIx
namespace Go.Proofs.YtkbkikggodlbbaaGreat
open Go.ChangeShapes Go.WideShapes Go.ChangeAt Go.RowKit
set_option linter.unusedVariables false
set_option linter.unusedSimpArgs false
theorem qj:∀a b:List UInt8,-1≤Lib.compareBytes a b∧Lib.compareBytes a b≤1
 | [],[]=>by decide
 | [],_ :: _=>by simp [Lib.compareBytes]
 | _ :: _,[]=>by simp [Lib.compareBytes]
 | x :: a,y :: b=>by
   have:=qj a b;unfold Lib.compareBytes;repeat' split
   all_goals omega
theorem J5:∀a b:List UInt8,Lib.compareBytes a b = 0↔a = b
 | [],[]=>by simp [Lib.compareBytes]
 | [],_ :: _=>by simp [Lib.compareBytes]
 | _ :: _,[]=>by simp [Lib.compareBytes]
 | x :: a,y :: b=>by
   have ih:=J5 a b;unfold Lib.compareBytes;by_cases h1:x < y
   ·rw [if_pos h1];constructor
    ·intro h;omega
    ·intro h;injection h with h2 _;subst h2;exact absurd h1 (UInt8.lt_irrefl _)
   ·rw [if_neg h1];by_cases h2:y < x
    ·rw [if_pos h2];constructor
     ·intro h;omega
     ·intro h;injection h with h3 _;subst h3;exact absurd h2 (UInt8.lt_irrefl _)
    ·rw [if_neg h2];have hxy:x = y:=UInt8.le_antisymm (UInt8.not_lt.1 h2) (UInt8.not_lt.1 h1);subst hxy;rw [ih];simp
theorem Wx:∀a b:List UInt8,Lib.compareBytes a b < 0↔Op.bytesLess a b = true
 | [],[]=>by simp [Lib.compareBytes,Op.bytesLess]
 | [],_ :: _=>by simp [Lib.compareBytes,Op.bytesLess]
 | _ :: _,[]=>by simp [Lib.compareBytes,Op.bytesLess]
 | x :: a,y :: b=>by
   have ih:=Wx a b;unfold Lib.compareBytes Op.bytesLess;by_cases h1:x < y
   ·rw [if_pos h1];simp [h1]
   ·rw [if_neg h1];by_cases h2:y < x
    ·rw [if_pos h2];have hne:(x == y) = false:=(by rw [beq_eq_false_iff_ne];rintro rfl;exact absurd h2 (UInt8.lt_irrefl _));simp [h1,hne]
    ·rw [if_neg h2];have hxy:x = y:=UInt8.le_antisymm (UInt8.not_lt.1 h2) (UInt8.not_lt.1 h1);subst hxy;rw [ih];simp [h1]
end Go.Proofs.YtkbkikggodlbbaaGreat
namespace Go.Proofs.YtkbkikggodlbbaaGreat
set_option linter.unusedVariables false
set_option linter.unusedSimpArgs false
theorem ak0:∀a:List UInt8,Op.bytesLess a a = false
 | []=>rfl
 | x :: a=>by
   unfold Op.bytesLess;have ih:=ak0 a;have h:decide (x < x) = false:=S';simp [ih]
theorem ak1 (x y:UInt8) (a b:List UInt8):Op.bytesLess (x :: a) (y :: b) = true↔x < y∨(x = y∧Op.bytesLess a b = true):=by
 conv=>lhs;unfold Op.bytesLess
 simp
theorem apx:∀a b c:List UInt8,Op.bytesLess a b = true→Op.bytesLess b c = true→Op.bytesLess a c = true
 | [],[],_,h,_=>by simp [Op.bytesLess] at h
 | [],_ :: _,[],_,h=>by simp [Op.bytesLess] at h
 | [],_ :: _,_ :: _,_,_=>by simp [Op.bytesLess]
 | _ :: _,[],_,h,_=>by simp [Op.bytesLess] at h
 | _ :: _,_ :: _,[],_,h=>by simp [Op.bytesLess] at h
 | x :: a,y :: b,z :: c,h1,h2=>by
   rw [ak1] at h1 h2 ⊢;rcases h1 with h1 | ⟨rfl,h1⟩
   ·rcases h2 with h2 | ⟨rfl,h2⟩
    ·exact .inl (UInt8.lt_trans h1 h2)
    ·exact .inl h1
   ·rcases h2 with h2 | ⟨rfl,h2⟩
    ·exact .inl h2
    ·exact .inr ⟨rfl,apx a b c h1 h2⟩
theorem aoA:∀a b:List UInt8,Op.bytesLess a b = false→Op.bytesLess b a = false→a = b
 | [],[],_,_=>rfl
 | [],_ :: _,h,_=>by simp [Op.bytesLess] at h
 | _ :: _,[],_,h=>by simp [Op.bytesLess] at h
 | x :: a,y :: b,h1,h2=>by
   have e1:¬(x < y∨(x = y∧Op.bytesLess a b = true)):=(by rw [← ak1,h1];simp);have e2:¬(y < x∨(y = x∧Op.bytesLess b a = true)):=(by rw [← ak1,h2];simp);have hxy:x = y:=UInt8.le_antisymm (UInt8.not_lt.1 fun h=>e2 (.inl h)) (UInt8.not_lt.1 fun h=>e1 (.inl h));subst hxy;rw [aoA a b (by cases h:Op.bytesLess a b;rfl;exact absurd (.inr ⟨rfl,h⟩) e1) (by cases h:Op.bytesLess b a;rfl;exact absurd (.inr ⟨rfl,h⟩) e2)]
end Go.Proofs.YtkbkikggodlbbaaGreat
namespace Go.Proofs.YtkbkikggodlbbaaGreat
open Go.ChangeShapes Go.WideShapes Go.ChangeAt Go.RowKit
set_option linter.unusedVariables false
set_option linter.unusedSimpArgs false
set_option maxHeartbeats 1000000
set_option maxRecDepth 100000
def ao0 (x y:iU):List Int:=[Lib.compareBytes x.key.data.toList y.key.data.toList,Lib.compareBytes x.value.data.toList y.value.data.toList,Lib.compareInt x.effect y.effect]
theorem compareTaints_gr (x y:iU) (cs ds:List Value) (F G:List Nat) (w:World) (h:rd w x cs F) (h':rd w y ds G) :
 Calls Tryz.prog 157 #[.agg cs.toArray,.agg ds.toArray] w fun e w'=>e = .returned (.int .i64 (Qa (ao0 x y)))∧Gr w w':=by
 obtain ⟨hck,hF1,xO,xk,zT⟩:=oK h;obtain ⟨jU,hF2,vC,rP,uY⟩:=oK h';subst hck jU;subst hF1 hF2;have hr1:=qj x.key.data.toList y.key.data.toList;have hr2:=qj x.value.data.toList y.value.data.toList;have hr3:=BU x.effect y.effect;go_enter Tryz.func157,Tryz.ntmps157;go_wp2_with fail
 refine nS ((w.alloc (.cells #[.string x.key,.string x.value,.int .i64 x.effect] 162)).alloc (.cells #[.string y.key,.string y.value,.int .i64 y.effect] 162)) [0,1,2,3,5,6,7,8,10,11,12,13] [4,9,14,15,16,17] U' U' (fun _ _ d _ _ h=>by cases d <;> exact h) (aj _) ?_;simp only [pick,List.getElem?_cons_succ,List.getElem?_cons_zero]
 iterate 12
  (apply dR
   case hy =>exact Zacz
   simp only [Act.put,pz])
 refine fE ?_;have hbx:=aA (aj ((w.alloc (.cells #[.string x.key,.string x.value,.int .i64 x.effect] 162)).alloc (.cells #[.string y.key,.string y.value,.int .i64 y.effect] 162)));refine aK rfl (fun K hK=>?_);go_simp;refine (N8 x.key y.key _).mono ?_;rintro e wz ⟨rfl,hw⟩;simp only [hw];clear hw wz;refine hK _ _ hbx (fun _=>?_);try simp only [Act.put,pz]
 clear hK K;refine aK rfl (fun K hK=>?_);go_simp;refine (N8 x.value y.value _).mono ?_;rintro e wz ⟨rfl,hw⟩;simp only [hw];clear hw wz;refine hK _ _ hbx (fun _=>?_);try simp only [Act.put,pz]
 clear hK K;refine aK rfl (fun K hK=>?_);go_simp;refine (EI x.effect y.effect _).mono ?_;rintro e wz ⟨rfl,hw⟩;simp only [hw];clear hw wz;refine hK _ _ hbx (fun _=>?_);try simp only [Act.put,pz]
 clear hK K;refine aK rfl (fun K hK=>?_);go_simp;replace hbx:=ak hbx (.cells #[.int .i64 (Lib.compareBytes x.key.data.toList y.key.data.toList),.int .i64 (Lib.compareBytes x.value.data.toList y.value.data.toList),.int .i64 (Lib.compareInt x.effect y.effect)] 3);refine hK _ _ hbx (fun _=>?_);try simp only [Act.put,pz]
 clear hK K;have hS:=Sl.ape (Sl.ints3 ((w.alloc (.cells #[.string x.key,.string x.value,.int .i64 x.effect] 162)).alloc (.cells #[.string y.key,.string y.value,.int .i64 y.effect] 162)) _ _ _ 3 (I64.small hr1) (I64.small hr2) (I64.small hr3) (w.heap.size+2) S');refine aK rfl (fun K hK=>?_);go_simp;refine (afl _ _ 3 _ _ _ hS rfl S').mono ?_;rintro e wz ⟨rfl,hw⟩;simp only [hw];clear hw wz;refine hK _ _ hbx (fun _=>?_);try simp only [Act.put,pz]
 clear hK K;refine aK rfl (fun K hK=>?_);go_simp;refine hK _ _ hbx (fun _=>?_);try simp only [Act.put,pz]
 clear hK K;refine dX ?_;go_wp2;go_ret
 exact ⟨rfl,(by repeat (first | with_reducible exact Gr.refl _ | with_reducible refine Gr.alloc ?_ _ | with_reducible refine Gr.drew ?_))⟩
theorem acE (x y:iU) (cs ds:List Value) (F G:List Nat) (w:World) (h:rd w x cs F) (h':rd w y ds G) :
 Calls Tryz.prog 157 #[.agg cs.toArray,.agg ds.toArray] w fun e w'=>e = .returned (.int .i64 (Qa (ao0 x y)))∧Below w.heap.size w w' :=
 (compareTaints_gr x y cs ds F G w h h').mono fun _ _ hh=>⟨hh.1,hh.2.below⟩
def qo (x y:iU):Bool:=decide (Qa (ao0 x y) < 0)
theorem aiw {x y:iU} (h:(x.key.toList == y.key.toList) = false):qo x y = Op.bytesLess x.key.toList y.key.toList:=by
 have h1:Lib.compareBytes x.key.data.toList y.key.data.toList≠0:=fun e=>by
  exact Zadb
 unfold qo ao0;simp only [Qa,if_neg h1];exact Zac5
theorem aeU {x y:iU} (hk:(x.key.toList == y.key.toList) = true) (h:(x.value.toList == y.value.toList) = false):qo x y = Op.bytesLess x.value.toList y.value.toList:=by
 have h0:Lib.compareBytes x.key.data.toList y.key.data.toList = 0:=by rw [J5,← ByteArray.toList_eq,← ByteArray.toList_eq];simpa using hk
 have h1:Lib.compareBytes x.value.data.toList y.value.data.toList≠0:=fun e=>by
  exact Zadb
 unfold qo ao0;simp only [Qa,if_pos h0,if_neg h1];exact Zac5
theorem adu {x y:iU} (hk:(x.key.toList == y.key.toList) = true) (h:(x.value.toList == y.value.toList) = true):qo x y = decide (x.effect < y.effect):=by
 have h0:Lib.compareBytes x.key.data.toList y.key.data.toList = 0:=by rw [J5,← ByteArray.toList_eq,← ByteArray.toList_eq];simpa using hk
 have h1:Lib.compareBytes x.value.data.toList y.value.data.toList = 0:=by rw [J5,← ByteArray.toList_eq,← ByteArray.toList_eq];simpa using h
 unfold qo ao0;simp only [Qa,if_pos h0,if_pos h1];exact Zadr
theorem anf (x y:iU) (cs ds:List Value) (F G:List Nat) (w:World) (h:rd w x cs F) (h':rd w y ds G) :
 Calls Tryz.prog 142 #[.agg cs.toArray,.agg ds.toArray] w fun e w'=>e = .returned (.bool (qo x y))∧Below w.heap.size w w':=by
 obtain ⟨hck,hF1,xO,xk,zT⟩:=oK h;obtain ⟨jU,hF2,vC,rP,uY⟩:=oK h';subst hck jU;subst hF1 hF2;cases h1:(x.key.toList == y.key.toList) with
 | false =>rw [aiw h1];go_enter Tryz.func142,Tryz.ntmps142;exact Zab9
 | true =>
   cases h2:(x.value.toList == y.value.toList) with
   | false =>rw [aeU h1 h2];go_enter Tryz.func142,Tryz.ntmps142;exact Zab9
   | true =>rw [adu h1 h2];go_enter Tryz.func142,Tryz.ntmps142;exact Zab9
end Go.Proofs.YtkbkikggodlbbaaGreat
namespace Go.Proofs.YtkbkikggodlbbaaGreat
open Go.ChangeShapes Go.WideShapes Go.ChangeAt Go.RowKit
set_option linter.unusedVariables false
set_option linter.unusedSimpArgs false
set_option maxHeartbeats 1000000
set_option maxRecDepth 100000
theorem qQ {P:Program} {t e:TypeId} {z:Value} {size bytes:Nat} (hE:DL P t e z size bytes) {o:Oper} {a:Act} {K:Act→World→Prop} {Q:Exit→Act→World→Prop} (s x:Operand)
 (ho:o.op = .call { callee:=.builtin .append,args:=#[s,x],argTypes:=#[t,t] })
 (w:World) (base:Nat) (v:Value) (n:Nat) (xs:List Value) (hown:w.ownsRow base e size v n xs) (hs:a.eval s = v)
 (ad:Addr) (m c:Nat) (news:List Value) (hx:a.eval x = .slice (some ad) m c) (hl:news.length = m * size) (hnews:∀j u,news[j]? = some u→w.cell? (ad.add j) = some u) (h1:∀u∈news,u.oneCell' = true)
 (hn:n+m≤2097152) (hby:bytes≤4096) (hbase:base≤w.heap.size)
 (h:∀v' w',w'.ownsRow base e size v' (n+m) (xs++news)→w.grownBy w' v.ownBlock→(v'.ownBlock = v.ownBlock∨v'.ownBlock = some w.heap.size)→K (a.put o.dst v') w'):o.wp P a w K Q:=by
 obtain ⟨ht,hi0,hzs,hsz⟩:=hE;obtain ⟨i,hi,hz,hsize,hb⟩:=info_parts hi0;have hbb:(n+m) * bytes≤2097152 * 4096:=Nat.mul_le_mul O' hby;obtain ⟨v',w',hr,h2,h3,h4,h5⟩:=run_append_own_at (P:=P) w base t o.type e i z size bytes ht hi hz hsize hb hzs hsz v n xs hown ad m c news hl hnews h1 at6 O' hbase;unfold Oper.wp execOp;simp only [ho,resolve,invoke,builtin,Sem.run_bind,Sem.run_pure,Result.andThen_ok,List.map_toArray,List.map_cons,List.map_nil,hs,hx,hr];exact h v' w' h2 h3 h5
theorem xW {P:Program} {t e:TypeId} {z:Value} {size bytes:Nat} (hE:DL P t e z size bytes) {ops:Array Oper} {rest:List Oper} {o:Oper} {a:Act} {Q:Exit→Act→World→Prop} (hgd:o.guard = none) (s x:Operand)
 (ho:o.op = .call { callee:=.builtin .append,args:=#[s,x],argTypes:=#[t,t] })
 (w:World) (base:Nat) (v:Value) (n:Nat) (xs:List Value) (hown:w.ownsRow base e size v n xs) (hs:a.eval s = v)
 (ad:Addr) (m c:Nat) (news:List Value) (hx:a.eval x = .slice (some ad) m c) (hl:news.length = m * size) (hnews:∀j u,news[j]? = some u→w.cell? (ad.add j) = some u) (h1:∀u∈news,u.oneCell' = true)
 (hn:n+m≤2097152) (hby:bytes≤4096) (hbase:base≤w.heap.size)
 (h:∀v' w',w'.ownsRow base e size v' (n+m) (xs++news)→w.grownBy w' v.ownBlock→(v'.ownBlock = v.ownBlock∨v'.ownBlock = some w.heap.size)→wpList P ops Q rest (a.put o.dst v') w'):wpList P ops Q (o :: rest) a w :=
 wpList_plain hgd fun K hK=>qQ hE s x ho w base v n xs hown hs ad m c news hx hl hnews h1 hn hby hbase fun v' w' h1 h2 h3=>hK _ _ (h v' w' h1 h2 h3)
theorem D9 (W:World) (e:TypeId) (size N:Nat) (hN:W.heap.size = N):(W.alloc (.cells #[] e)).ownsRow N e size (.slice (some ⟨N,0,none⟩) 0 0) 0 []:=by
 subst hN;exact World.ownsRow_made W #[] 0 (Nat.le_refl _) (Nat.zero_le _) S'
theorem DI (W:World) (e:TypeId) (elt:List Value) (N:Nat) (hN:W.heap.size = N):∀q u,elt[q]? = some u→(W.alloc (.cells elt.toArray e)).cell? ((⟨N,0,none⟩:Addr).add q) = some u:=by
 subst hN;intro q u hu;rw [Addr.add_lit,Nat.zero_add,cell_of_row _ _ _ _ _ _ (heap_alloc_new W _)];simpa using hu
theorem wW {w:World} {B e size n:Nat} {v:Value} {xs:List Value} (h:w.ownsRow B e size v n xs) (hn:0 < n):∃g cap,v = .slice (some ⟨g,0,none⟩) n cap∧B≤g∧n≤cap∧g < w.heap.size:=by
 rcases h.2 with h | ⟨g,cap,cur,h1,h2,h3,h4,h5⟩
 ·omega
 ·refine ⟨g,cap,h1,h2,h4,?_⟩;rcases Nat.lt_or_ge g w.heap.size with hlt | hge
  ·exact hlt
  ·rw [Array.getElem?_eq_none hge] at h3;cases h3
theorem IE {w:World} {B e size n g cap:Nat} {xs:List Value} (h:w.ownsRow B e size (.slice (some ⟨g,0,none⟩) n cap) n xs):B≤g∧g < w.heap.size∧n≤cap∧∀j u,xs[j]? = some u→w.cell? ⟨g,j,none⟩ = some u:=by
 rcases h.2 with ⟨h,_⟩ | ⟨g',cap',cur,h1,h2,h3,h4,h5⟩
 ·cases h
 ·simp only [Value.slice.injEq,Option.some.injEq,Addr.mk.injEq,and_true,true_and] at h1;obtain ⟨rfl,rfl⟩:=h1;refine ⟨h2,?_,h4,fun j u hu=>?_⟩
  ·rcases Nat.lt_or_ge g w.heap.size with hlt | hge
   ·exact hlt
   ·rw [Array.getElem?_eq_none hge] at h3;cases h3
  ·rw [cell_of_row w g j cur e (0,0) h3];have hj:=(List.getElem?_eq_some_iff.1 hu).1;rw [← h5.2.2,List.getElem?_take] at hu;split at hu
   ·simpa using hu
   ·cases hu
theorem PY {β:Type} {lt:β→β→Bool} {y:β} : ∀(s1 s2:List β),(∀x∈s1,lt y x = false)→(s2 = []∨∃x s',s2 = x :: s'∧lt y x = true)→OM lt y (s1++s2) = s1++y :: s2
 | [],s2,_,h2=>by
   rcases h2 with rfl | ⟨x,s',rfl,h⟩
   ·rfl
   ·simp only [List.nil_append];rw [OM,if_pos h]
 | x :: s1,s2,h1,h2=>by
   have h0:=h1 x (List.mem_cons_self ..);simp only [List.cons_append];rw [OM,if_neg (by rw [h0];simp),PY s1 s2 (fun z hz=>h1 z (List.mem_cons_of_mem _ hz)) h2]
def vU (xs:List nI):Option (Int × Int) :=
 match GZ (xs.map nI.cpu) 0,GZ (xs.map nI.mem) 0 with
 | some a,some b=>some (a,b)
 | _,_=>none
def am8:Option (Int × Int)→Value
 | some (a,b)=>.tuple #[.int .i64 a,.int .i64 b,.bool true]
 | none=>.tuple #[.int .i64 0,.int .i64 0,.bool false]
def iv (xs:List Int):List Value:=xs.map fun n=>.int .i64 n
theorem ae7 {α:Type} (f:α→Int) (xs:List α) (k:Nat) (h:k < xs.length):iv ((xs.take (k+1)).map f) = iv ((xs.take k).map f)++[.int .i64 (f xs[k])]:=by
 unfold iv;rw [List.take_succ_eq_append_getElem h,List.map_append,List.map_append];rfl
theorem Sl.apG {w:World} {xs:List nI} {A:Option Addr} {c:Nat} {F:List Nat} (h:Sl w xs A c F):∀p∈xs,I64 p.cpu∧I64 p.mem∧I64 p.rank:=by
 intro p hp;obtain ⟨k,hk,rfl⟩:=List.getElem_of_mem hp;obtain ⟨b,o,ck,Fk,_,_,_,hr,_,_⟩:=h.get hk;obtain ⟨gu,gy,jw,oh,nT,wG,fA,fB,jY,rfl,rfl,hname,dO,vg,hmem,BJ,mX,eG⟩:=dL hr;exact ⟨vg,hmem,BJ⟩
theorem am9 (xs:List nI) (A:Option Addr) (n c:Nat) (F:List Nat) (w:World) (h:Sl w xs A c F) (hn:n = xs.length) (hl:(xs.length:Int)≤1048576) :
 Calls Tryz.prog 110 #[.slice A n c] w fun e w'=>e = .returned (am8 (vU xs))∧Below w.heap.size w w':=by
 subst hn;have hI:=I' h.apG;go_enter Tryz.func110,Tryz.ntmps110;go_wp2_with fail
 go_loopw [5,6,17] (fun u v i wr=>∃(k:Nat),k≤xs.length∧i = .int .i64 k∧wr.ownsRow w.heap.size 3 1 u k (iv ((xs.take k).map nI.cpu))∧wr.ownsRow w.heap.size 3 1 v k (iv ((xs.take k).map nI.mem))∧DK u v∧Below w.heap.size w wr) (fun _ _ i _=>xs.length - (intOf i).toNat)
 case atStart =>exact Zac2
 case round =>
  obtain ⟨k,hk,rfl,hu,hv,hap,hbl⟩:=hrel;have hlts:=hu.lt;by_cases hlt:k < xs.length
  ·obtain ⟨b,o,ck,Fk,rfl,o9,hbs,hr,hsub,hc⟩:=(Sl.ext (w':=wr) (A:=A) (c:=c) h hbl).get hlt;have hbw:=h.lt b o9;obtain ⟨gu,gy,jw,oh,nT,wG,fA,fB,jY,hck,su,hname,dO,vg,hmem,BJ,mX,eG⟩:=dL hr;subst hck;have q0:wr.cell? ⟨b,o+k * 7,none⟩ = some (.string xs[k].name):=(by exact hc 0 _ rfl);have q1:wr.cell? ⟨b,o+k * 7+1,none⟩ = some (.slice gu xs[k].labels.length gy):=(by rw [Nat.add_assoc];exact hc 1 _ rfl);have q2:wr.cell? ⟨b,o+k * 7+2,none⟩ = some (.int .i64 xs[k].cpu):=(by rw [Nat.add_assoc];exact hc 2 _ rfl);have q3:wr.cell? ⟨b,o+k * 7+3,none⟩ = some (.int .i64 xs[k].mem):=(by rw [Nat.add_assoc];exact hc 3 _ rfl);have q4:wr.cell? ⟨b,o+k * 7+4,none⟩ = some (.int .i64 xs[k].rank):=(by rw [Nat.add_assoc];exact hc 4 _ rfl);have q5:wr.cell? ⟨b,o+k * 7+5,none⟩ = some (.slice oh xs[k].needs.length nT):=(by rw [Nat.add_assoc];exact hc 5 _ rfl);have q6:wr.cell? ⟨b,o+k * 7+6,none⟩ = some (.slice fA xs[k].tolerances.length fB):=(by rw [Nat.add_assoc];exact hc 6 _ rfl);clear hc
   go_wp2_with (first
    | (at_builtin
       refine uf adG J' _ _ J' _ _ _ _ _ (hu.alloc _) J' [.int .i64 xs[k].cpu] aue J' aub O' O' avK ?_;intro u2 w2 hu2 hg2 hz2 anT;have hne:some wr.heap.size≠u5.ownBlock:=(by intro e;have:=hu.lt _ e.symm;omega);have p3:w2.cell? ⟨wr.heap.size,3,none⟩ = some (.int .i64 xs[k].mem):=hg2.cell awG hne;have hb2:Below w.heap.size w w2:=lS (hu.alloc _) hg2 (ak hbl _) avK;have hv2:=(hv.alloc _).kept hg2 hap.symm
       have hap2:=hap.grow (N:=_) hv (by simp;omega) anT)
    | (at_builtin
       refine uf adG J' _ _ J' _ _ _ _ _ hv2 J' [.int .i64 xs[k].mem] aue J' aub O' O' (hb2.size) ?_;intro v2 w3 hv3 hg3 hz3 hat3;have hu3:=hu2.kept hg3 hap2;have hap3:DK v2 u2:=hap2.symm.grow (N:=_) hu2 O' hat3
       have hb3:=lS hv2 hg3 hb2 hb2.size))
   exact Zaef
  ·have hkl:k = xs.length:=O';subst hkl;rw [List.take_length] at hu hv;obtain ⟨Au,cu,Gu,rfl,hsu⟩:=Sl.oJ (xs:=xs.map nI.cpu) (by rw [List.length_map];exact hu) (Fv wr _ (by intro y hy;obtain ⟨p,hp,rfl⟩:=List.mem_map.1 hy;exact (hI.out p hp).1));obtain ⟨Av,cv,Gv,rfl,hsv⟩:=Sl.oJ (xs:=xs.map nI.mem) (by rw [List.length_map];exact hv) (Fv wr _ (by intro y hy;obtain ⟨p,hp,rfl⟩:=List.mem_map.1 hy;exact (hI.out p hp).2.1));clear hu hv hap;rcases hr1:GZ (xs.map nI.cpu) 0 with _ | a <;> rcases hr2:GZ (xs.map nI.mem) 0 with _ | b
   all_goals
    have hfin:vU xs = _:=(by unfold vU;rw [hr1,hr2]);have HF:=I' hfin;have R1:=I' hr1;have R2:=I' hr2;clear hr1 hr2 hfin;go_wp2_with fail
    refine (acC (xs.map nI.cpu) Au _ cu Gu _ hsu S' awH).mono ?_;rw [R1.out];rintro e w2 ⟨rfl,hb2⟩;go_wp2_with fail
    refine (acC (xs.map nI.mem) Av _ cv Gv _ (hsv.ext hb2) S' awH).mono ?_;rw [R2.out];rintro e w3 ⟨rfl,hb3⟩;go_wp2;go_returns
    exact ⟨by rw [HF.out];rfl,ah (ah hbl hb2) hb3⟩
theorem ad8 (xs:List nI) (A:Option Addr) (n c:Nat) (F:List Nat) (w:World) (h:Sl w xs A c F) (hn:n = xs.length) (hl:(xs.length:Int)≤1048576) :
 Calls Tryz.prog 104 #[.slice A n c] w fun e w'=>e = .returned (am8 (vU xs))∧Below w.heap.size w w':=by
 subst hn;have hI:=I' h.apG;go_enter Tryz.func104,Tryz.ntmps104;go_wp2_with fail
 go_loopw [5,6,7] (fun u v i wr=>∃(k:Nat),k≤xs.length∧i = .int .i64 k∧wr.ownsRow w.heap.size 3 1 u k (iv ((xs.take k).map nI.cpu))∧wr.ownsRow w.heap.size 3 1 v k (iv ((xs.take k).map nI.mem))∧DK u v∧Below w.heap.size w wr) (fun _ _ i _=>xs.length - (intOf i).toNat)
 case atStart =>exact Zac2
 case round =>
  obtain ⟨k,hk,rfl,hu,hv,hap,hbl⟩:=hrel;have hlts:=hu.lt;by_cases hlt:k < xs.length
  ·obtain ⟨b,o,ck,Fk,rfl,o9,hbs,hr,hsub,hc⟩:=(Sl.ext (w':=wr) (A:=A) (c:=c) h hbl).get hlt;have hbw:=h.lt b o9;obtain ⟨gu,gy,jw,oh,nT,wG,fA,fB,jY,hck,su,hname,dO,vg,hmem,BJ,mX,eG⟩:=dL hr;subst hck;have q0:wr.cell? ⟨b,o+k * 7,none⟩ = some (.string xs[k].name):=(by exact hc 0 _ rfl);have q1:wr.cell? ⟨b,o+k * 7+1,none⟩ = some (.slice gu xs[k].labels.length gy):=(by rw [Nat.add_assoc];exact hc 1 _ rfl);have q2:wr.cell? ⟨b,o+k * 7+2,none⟩ = some (.int .i64 xs[k].cpu):=(by rw [Nat.add_assoc];exact hc 2 _ rfl);have q3:wr.cell? ⟨b,o+k * 7+3,none⟩ = some (.int .i64 xs[k].mem):=(by rw [Nat.add_assoc];exact hc 3 _ rfl);have q4:wr.cell? ⟨b,o+k * 7+4,none⟩ = some (.int .i64 xs[k].rank):=(by rw [Nat.add_assoc];exact hc 4 _ rfl);have q5:wr.cell? ⟨b,o+k * 7+5,none⟩ = some (.slice oh xs[k].needs.length nT):=(by rw [Nat.add_assoc];exact hc 5 _ rfl);have q6:wr.cell? ⟨b,o+k * 7+6,none⟩ = some (.slice fA xs[k].tolerances.length fB):=(by rw [Nat.add_assoc];exact hc 6 _ rfl);clear hc
   go_wp2_with (first
    | (at_builtin
       refine uf adG J' _ _ J' _ _ _ _ _ hu J' [.int .i64 xs[k].cpu] aue J' aub O' O' (hbl.size) ?_;intro u2 w2 hu2 hg2 hz2 anT;have hne:some b≠u5.ownBlock:=(by intro e;have:=hu.lt _ e.symm;omega);replace q3:=hg2.cell q3 hne;have hb2:Below w.heap.size w w2:=lS hu hg2 hbl hbl.size;have hv2:=hv.kept hg2 hap.symm
       have hap2:=hap.grow (N:=_) hv O' anT)
    | (at_builtin
       refine uf adG J' _ _ J' _ _ _ _ _ hv2 J' [.int .i64 xs[k].mem] aue J' aub O' O' (hb2.size) ?_;intro v2 w3 hv3 hg3 hz3 hat3;have hu3:=hu2.kept hg3 hap2;have hap3:DK v2 u2:=hap2.symm.grow (N:=_) hu2 O' hat3
       have hb3:=lS hv2 hg3 hb2 hb2.size))
   exact Zaef
  ·have hkl:k = xs.length:=O';subst hkl;rw [List.take_length] at hu hv;obtain ⟨Au,cu,Gu,rfl,hsu⟩:=Sl.oJ (xs:=xs.map nI.cpu) (by rw [List.length_map];exact hu) (Fv wr _ (by intro y hy;obtain ⟨p,hp,rfl⟩:=List.mem_map.1 hy;exact (hI.out p hp).1));obtain ⟨Av,cv,Gv,rfl,hsv⟩:=Sl.oJ (xs:=xs.map nI.mem) (by rw [List.length_map];exact hv) (Fv wr _ (by intro y hy;obtain ⟨p,hp,rfl⟩:=List.mem_map.1 hy;exact (hI.out p hp).2.1));clear hu hv hap;rcases hr1:GZ (xs.map nI.cpu) 0 with _ | a <;> rcases hr2:GZ (xs.map nI.mem) 0 with _ | b
   all_goals
    have hfin:vU xs = _:=(by unfold vU;rw [hr1,hr2]);have HF:=I' hfin;have R1:=I' hr1;have R2:=I' hr2;clear hr1 hr2 hfin;go_wp2_with fail
    refine (acD (xs.map nI.cpu) Au _ cu Gu _ hsu S' awH).mono ?_;rw [R1.out];rintro e w2 ⟨rfl,hb2⟩;go_wp2_with fail
    refine (acD (xs.map nI.mem) Av _ cv Gv _ (hsv.ext hb2) S' awH).mono ?_;rw [R2.out];rintro e w3 ⟨rfl,hb3⟩;go_wp2;go_returns
    exact ⟨by rw [HF.out];rfl,ah (ah hbl hb2) hb3⟩
end Go.Proofs.YtkbkikggodlbbaaGreat
