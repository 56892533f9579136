/- A new element put into a row of the call's own, by two appends and one more: rows that are appended to in a region of drawn order. No condition. -/
import Derived.Test.YtnedlmlpeplnfaaGreatStabP
import Derived.Test.YtnedlmlpeplnfaaGreatNames
import Derived.Test.YtnedlmlpeplnfaaGreatRegionIx
import Derived.Test.YtnedlmlpeplnfaaGreatRegion
import Derived.Test.YtnedlmlpeplnfaaGreatEq
import Derived.Test.YtnedlmlpeplnfaaGreatSz
namespace Go.Proofs.YtnedlmlpeplnfaaGreat
open Go.ChangeShapes Go.WideShapes Go.ChangeAt Go.RowKit
set_option linter.unusedVariables false
set_option linter.unusedSimpArgs false
theorem qQ {P:Program} {t e:TypeId} {z:Value} {size bytes:Nat} (hE:DL P t e z size bytes) {o:Oper} {a:Act} {K:Act→World→Prop} {Q:Exit→Act→World→Prop} (s x:Operand)
 (ho:o.op = .call { callee:=.builtin .append,args:=#[s,x],argTypes:=#[t,t] })
 (w:World) (base:Nat) (v:Value) (n:Nat) (xs:List Value) (hown:w.ownsRow base e size v n xs) (hs:a.eval s = v)
 (ad:Addr) (m c:Nat) (news:List Value) (hx:a.eval x = .slice (some ad) m c) (hl:news.length = m * size) (hnews:∀j u,news[j]? = some u→w.cell? (ad.add j) = some u) (h1:∀u∈news,u.oneCell' = true)
 (hn:n+m≤2097152) (hby:bytes≤4096) (hbase:base≤w.heap.size)
 (h:∀v' w',w'.ownsRow base e size v' (n+m) (xs++news)→w.grownBy w' v.ownBlock→(v'.ownBlock = v.ownBlock∨v'.ownBlock = some w.heap.size)→K (a.put o.dst v') w'):o.wp P a w K Q:=by
 obtain ⟨ht,hi0,hzs,hsz⟩:=hE;obtain ⟨i,hi,hz,hsize,hb⟩:=info_parts hi0;have hbb:(n+m) * bytes≤2097152 * 4096:=Nat.mul_le_mul O' hby;obtain ⟨v',w',hr,h2,h3,h4,h5⟩:=run_append_own_at (P:=P) w base t o.type e i z size bytes ht hi hz hsize hb hzs hsz v n xs hown ad m c news hl hnews h1 at6 O' hbase;unfold Oper.wp execOp;simp only [ho,resolve,invoke,builtin,Sem.run_bind,Sem.run_pure,Result.andThen_ok,List.map_toArray,List.map_cons,List.map_nil,hs,hx,hr];exact h v' w' h2 h3 h5
theorem xW {P:Program} {t e:TypeId} {z:Value} {size bytes:Nat} (hE:DL P t e z size bytes) {ops:Array Oper} {rest:List Oper} {o:Oper} {a:Act} {Q:Exit→Act→World→Prop} (hgd:o.guard = none) (s x:Operand)
 (ho:o.op = .call { callee:=.builtin .append,args:=#[s,x],argTypes:=#[t,t] })
 (w:World) (base:Nat) (v:Value) (n:Nat) (xs:List Value) (hown:w.ownsRow base e size v n xs) (hs:a.eval s = v)
 (ad:Addr) (m c:Nat) (news:List Value) (hx:a.eval x = .slice (some ad) m c) (hl:news.length = m * size) (hnews:∀j u,news[j]? = some u→w.cell? (ad.add j) = some u) (h1:∀u∈news,u.oneCell' = true)
 (hn:n+m≤2097152) (hby:bytes≤4096) (hbase:base≤w.heap.size)
 (h:∀v' w',w'.ownsRow base e size v' (n+m) (xs++news)→w.grownBy w' v.ownBlock→(v'.ownBlock = v.ownBlock∨v'.ownBlock = some w.heap.size)→wpList P ops Q rest (a.put o.dst v') w'):wpList P ops Q (o :: rest) a w :=
 wpList_plain hgd fun K hK=>qQ hE s x ho w base v n xs hown hs ad m c news hx hl hnews h1 hn hby hbase fun v' w' h1 h2 h3=>hK _ _ (h v' w' h1 h2 h3)
theorem D9 (W:World) (e:TypeId) (size N:Nat) (hN:W.heap.size = N):(W.alloc (.cells #[] e)).ownsRow N e size (.slice (some ⟨N,0,none⟩) 0 0) 0 []:=by
 subst hN;exact World.ownsRow_made W #[] 0 (Nat.le_refl _) (Nat.zero_le _) S'
theorem DI (W:World) (e:TypeId) (elt:List Value) (N:Nat) (hN:W.heap.size = N):∀q u,elt[q]? = some u→(W.alloc (.cells elt.toArray e)).cell? ((⟨N,0,none⟩:Addr).add q) = some u:=by
 subst hN;intro q u hu;rw [Addr.add_lit,Nat.zero_add,cell_of_row _ _ _ _ _ _ (heap_alloc_new W _)];simpa using hu
theorem wW {w:World} {B e size n:Nat} {v:Value} {xs:List Value} (h:w.ownsRow B e size v n xs) (hn:0 < n):∃g cap,v = .slice (some ⟨g,0,none⟩) n cap∧B≤g∧n≤cap∧g < w.heap.size:=by
 rcases h.2 with h | ⟨g,cap,cur,h1,h2,h3,h4,h5⟩
 ·omega
 ·refine ⟨g,cap,h1,h2,h4,?_⟩;rcases Nat.lt_or_ge g w.heap.size with hlt | hge
  ·exact hlt
  ·rw [Array.getElem?_eq_none hge] at h3;cases h3
theorem IE {w:World} {B e size n g cap:Nat} {xs:List Value} (h:w.ownsRow B e size (.slice (some ⟨g,0,none⟩) n cap) n xs):B≤g∧g < w.heap.size∧n≤cap∧∀j u,xs[j]? = some u→w.cell? ⟨g,j,none⟩ = some u:=by
 rcases h.2 with ⟨h,_⟩ | ⟨g',cap',cur,h1,h2,h3,h4,h5⟩
 ·cases h
 ·simp only [Value.slice.injEq,Option.some.injEq,Addr.mk.injEq,and_true,true_and] at h1;obtain ⟨rfl,rfl⟩:=h1;refine ⟨h2,?_,h4,fun j u hu=>?_⟩
  ·rcases Nat.lt_or_ge g w.heap.size with hlt | hge
   ·exact hlt
   ·rw [Array.getElem?_eq_none hge] at h3;cases h3
  ·rw [cell_of_row w g j cur e (0,0) h3];have hj:=(List.getElem?_eq_some_iff.1 hu).1;rw [← h5.2.2,List.getElem?_take] at hu;split at hu
   ·simpa using hu
   ·cases hu
theorem PY {β:Type} {lt:β→β→Bool} {y:β} : ∀(s1 s2:List β),(∀x∈s1,lt y x = false)→(s2 = []∨∃x s',s2 = x :: s'∧lt y x = true)→OM lt y (s1++s2) = s1++y :: s2
 | [],s2,_,h2=>by
   rcases h2 with rfl | ⟨x,s',rfl,h⟩
   ·rfl
   ·simp only [List.nil_append];rw [OM,if_pos h]
 | x :: s1,s2,h1,h2=>by
   have h0:=h1 x (List.mem_cons_self ..);simp only [List.cons_append];rw [OM,if_neg (by rw [h0];simp),PY s1 s2 (fun z hz=>h1 z (List.mem_cons_of_mem _ hz)) h2]
theorem aZ {α:Type} [Dat α] {w w':World} {x:α} {cs:List Value} {F:List Nat} (h:rd w x cs F) (hb:Below w.heap.size w w'):rd w' x cs F :=
 Dat.frame h (fun b hb'=>hb.block b (Dat.lt h b hb')) hb.size
def pK {α:Type} (p:α→Bool):List α→Int
 | []=>-1
 | x :: xs=>if p x then 0 else if pK p xs < 0 then -1 else pK p xs+1
theorem F5 {α:Type} {p:α→Bool} : ∀{xs:List α},(∀x∈xs,p x = false)→pK p xs = -1
 | [],_=>rfl
 | x :: xs,h=>by
   have h1:=h x (List.mem_cons_self ..);have h2:=F5 (xs:=xs) fun y hy=>h y (List.mem_cons_of_mem _ hy);simp [pK,h1,h2]
theorem Fj {α:Type} {p:α→Bool} : ∀{xs:List α} {k:Nat} (hk:k < xs.length),(∀x∈xs.take k,p x = false)→p xs[k] = true→pK p xs = k
 | x :: xs,0,_,_,h=>by simp at h;simp [pK,h]
 | x :: xs,k+1,hk,hb,h=>by
   have h1:=hb x S';have h2:=Fj (xs:=xs) (k:=k) (by simpa using hk) (fun y hy=>hb y (by simp [hy])) avp;simp only [pK,h1,h2];rw [if_neg S',if_neg O'];omega
theorem yQ {α:Type} {p:α→Bool} {xs:List α} {k:Nat} (hk:k < xs.length) (h:∀x∈xs.take k,p x = false) (hx:p xs[k] = false):∀x∈xs.take (k+1),p x = false:=by
 rw [List.take_succ_eq_append_getElem hk];intro x hm;rcases List.mem_append.1 hm with hm | hm
 ·exact h x hm
 ·simp at hm;subst hm;exact hx
theorem BH {xs:List iU} (h:(kL iU.wt xs:Int)≤1048576):((xs.length:Int)≤1048576)∧∀l∈xs,(l.key.size:Int)≤1048576∧(l.value.size:Int)≤1048576:=by
 refine ⟨by have:=gJ iU.wt xs;omega,fun l hl=>?_⟩;have h1:=Bq (f:=iU.wt) hl;have e:iU.wt l = l.key.size+l.value.size:=rfl;omega
theorem FQ {xs:List bH} (h:(kL bH.wt xs:Int)≤1048576):((xs.length:Int)≤1048576)∧∀l∈xs,(l.key.size:Int)≤1048576∧(l.value.size:Int)≤1048576:=by
 refine ⟨by have:=gJ bH.wt xs;omega,fun l hl=>?_⟩;have h1:=Bq (f:=bH.wt) hl;have e:bH.wt l = l.key.size+l.value.size:=rfl;omega
theorem Aa {xs:List Need} (h:(kL Need.wt xs:Int)≤1048576):((xs.length:Int)≤1048576)∧(∀l∈xs,(l.key.size:Int)≤1048576∧(l.values.length:Int)≤1048576∧∀v∈l.values,(v.size:Int)≤1048576):=by
 refine ⟨by have:=gJ Need.wt xs;omega,fun l hl=>?_⟩;have h1:=Bq (f:=Need.wt) hl;have e:Need.wt l = l.key.size+wtS l.values:=rfl;have h2:=gJ ByteArray.size l.values;unfold wtS at e;refine ⟨O',O',fun v hv=>?_⟩;have h3:=Bq (f:=ByteArray.size) hv;omega
theorem sW {xs:List Label} (h:(kL Label.wt xs:Int)≤1048576):((xs.length:Int)≤1048576)∧∀l∈xs,(l.key.size:Int)≤1048576∧(l.value.size:Int)≤1048576:=by
 refine ⟨by have:=gJ Label.wt xs;omega,fun l hl=>?_⟩;have h1:=Bq (f:=Label.wt) hl;have e:Label.wt l = l.key.size+l.value.size:=rfl;omega
end Go.Proofs.YtnedlmlpeplnfaaGreat
namespace Go.Proofs.YtnedlmlpeplnfaaGreat
open Go.ChangeShapes Go.WideShapes Go.ChangeAt Go.RowKit
theorem outcome_ofK {P:Program} {C:World→Prop} {v:Value} {r:Result Next} {w:World} (e:r = .ok (.value v) w) (h:C w):outcome P C v r:=by subst e;exact ⟨h,rfl⟩
end Go.Proofs.YtnedlmlpeplnfaaGreat
namespace Go.Proofs.YtnedlmlpeplnfaaGreat
open Go.ChangeShapes Go.WideShapes Go.ChangeAt Go.RowKit
set_option linter.unusedVariables false
set_option linter.unusedSimpArgs false
theorem amj (n:Nat) (h:n < 256):B8 n.toUInt8 = .int .u8 (n:Int):=by
 unfold B8;congr 1;have:n.toUInt8.toNat = n:=by simp [Nat.toUInt8,UInt8.toNat_ofNat'];omega
 rw [this]
end Go.Proofs.YtnedlmlpeplnfaaGreat
namespace Go.Proofs.YtnedlmlpeplnfaaGreat
open Go.ChangeShapes Go.WideShapes Go.ChangeAt Go.RowKit
set_option linter.unusedVariables false
set_option linter.unusedSimpArgs false
set_option maxHeartbeats 1000000
set_option maxRecDepth 100000
def dig (k:Nat):ByteArray:=⟨#[(k % 10+48).toUInt8]⟩
theorem amm (k:Nat):(dig k).size = 1:=rfl
def mtl (k:Nat) (out:ByteArray):ByteArray:=if h:k = 0 then out else mtl (k / 10) (dig k++out)
termination_by k
decreasing_by omega
theorem agC (out:ByteArray):mtl 0 out = out:=by rw [mtl,dif_pos rfl]
theorem apt {k:Nat} (h:0 < k) (out:ByteArray):mtl k out = mtl (k / 10) (dig k++out):=by rw [mtl,dif_neg O']
theorem amn:∀(n k:Nat) (out:ByteArray),k≤n→(mtl k out).size≤out.size+k
 | 0,k,out,h=>by
   obtain rfl:k = 0:=by omega
   rw [agC];omega
 | n+1,k,out,h=>by
   by_cases hk:k = 0
   ·subst hk;rw [agC];omega
   ·rw [apt O'];have:=amn n (k / 10) (dig k++out) O';rw [ByteArray.size_append] at this;have e:=amm k;omega
def lZ (k:Int):ByteArray:=if k≤0 then ⟨#[109,48]⟩ else ⟨#[109]⟩++mtl k.toNat ⟨#[]⟩
theorem agD (k:Int) (hk:k≤1073741824):(lZ k).size≤1073741828:=by
 unfold lZ;split
 ·decide
 ·rw [ByteArray.size_append];have:=amn k.toNat k.toNat ⟨#[]⟩ (Nat.le_refl _);have e1:(⟨#[109]⟩:ByteArray).size = 1:=rfl;have e2:(⟨#[]⟩:ByteArray).size = 0:=rfl;omega
theorem lW (k:Int) (w:World) (hk:k≤1073741824) (hk0:-9223372036854775808≤k):Calls Tryz.prog 125 #[.int .i64 k] w fun e w'=>e = .returned (.string (lZ k))∧Below w.heap.size w w':=by
 by_cases hneg:k≤0
 ·go_enter Tryz.func125,Tryz.ntmps125;go_wp2;go_ret
  exact ⟨by unfold lZ;rw [if_pos hneg];rfl,aj _⟩
 ·obtain ⟨m,rfl⟩:=Int.eq_ofNat_of_zero_le (show 0≤k by omega);have hfin:lZ (m:Int) = ⟨#[109]⟩++mtl m ⟨#[]⟩:=by unfold lZ;rw [if_neg hneg];rfl
  have HF:=I' hfin;have HM:=I' hk;clear hfin hk hk0;go_enter Tryz.func125,Tryz.ntmps125;go_wp2_with fail
  go_loopw [0,3] (fun x v wr=>∃(j:Nat) (out:ByteArray),x = .int .i64 j∧v = .string out∧Hid (mtl j out = mtl m ⟨#[]⟩)∧(out.size:Int)+j≤m∧Below w.heap.size w wr) (fun x _ _=>(intOf x).toNat)
  case atStart=>exact ⟨m,⟨#[]⟩,rfl,rfl,rfl,by show ((0:Nat):Int)+m≤m;omega,aj _⟩
  case round =>
   obtain ⟨j,out,rfl,rfl,hm,hs,hbl⟩:=hrel;by_cases hj:(0:Int) < (j:Int)
   ·have hM:=HM.out;have hout:(out.size:Int)≤1073741824:=O';clear hM;have hd:B8 (j % 10+48).toUInt8 = .int .u8 (48+(j:Int) % 10):=(by rw [amj _ O'];congr 1;omega)
    have hconv:(convert 158 9 (.slice (some ⟨wr.heap.size,0,none⟩) 1 1)).run Tryz.prog (wr.alloc (.cells #[.int .u8 (48+(j:Int) % 10)] 5)) = .ok (.string (dig j)) (wr.alloc (.cells #[.int .u8 (48+(j:Int) % 10)] 5)) :=
     run_convert_bytes_back _ 158 9 5 ⟨wr.heap.size,0,none⟩ 1 [(j % 10+48).toUInt8] Tryz.underlying158 Tryz.underlying5 Tryz.underlying9 (fun i hi=>by
      obtain rfl:i = 0:=by simpa using hi
      refine (cell_of_row _ wr.heap.size 0 #[.int .u8 (48+(j:Int) % 10)] 5 (0,0) (heap_alloc_new wr _)).trans ?_;rw [← hd]
      rfl)
    clear hd;have hds:=amm j;have hwr:wrap64 ((j:Int) / 10) = ((j / 10:Nat):Int):=(by have:=HM.out;unfold wrap64;omega);go_wp2_with fail
    refine ⟨⟨j / 10,_,by rw [hwr],rfl,?_,?_,ak hbl _⟩,?_⟩
    ·show _ = _;rw [← apt O'];exact hm.out
    ·rw [ByteArray.size_append,hds];omega
    ·rw [hwr];simp only [intOf];omega
   ·have hj0:j = 0:=O';subst hj0;have hm2:=hm.out;rw [agC] at hm2;subst hm2;have hM:=HM.out;have hout:((mtl m ⟨#[]⟩).size:Int)≤1073741824:=O';clear hM;go_wp2_with fail
    go_ret
    exact ⟨by rw [HF.out];rfl,hbl⟩
end Go.Proofs.YtnedlmlpeplnfaaGreat
