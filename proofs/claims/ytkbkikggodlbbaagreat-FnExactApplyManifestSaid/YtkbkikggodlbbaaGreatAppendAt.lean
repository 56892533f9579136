/- append of one element, and where the new row lies; several rows of the call's own side by side; a row read as a slice. No condition. -/
import Derived.Test.YtkbkikggodlbbaaGreatOpen
import Derived.Maps.AppendAt
import Derived.Test.YtkbkikggodlbbaaGreatKit
import Derived.Lib.SmallJoins
import Derived.Lib.Small
import Derived.Lib.Bytealg
import Derived.Test.YtkbkikggodlbbaaGreatOrdP
namespace Go.Proofs.YtkbkikggodlbbaaGreat
open Go.ChangeShapes Go.WideShapes Go.ChangeAt Go.RowKit
set_option linter.unusedVariables false
set_option linter.unusedSimpArgs false
set_option maxHeartbeats 1000000
set_option maxRecDepth 100000
theorem mG {w w':World} {B e size n:Nat} {v:Value} {xs:List Value} (h:w.ownsRow B e size v n xs) (hb:Below w.heap.size w w'):w'.ownsRow B e size v n xs :=
 h.kept (row:=none) ⟨hb.os,hb.tape,hb.output,hb.size,fun k hk _=>hb.block k hk⟩ (by cases hv:v.ownBlock <;> simp)
theorem vP {w:World} {B B' e size n:Nat} {v:Value} {xs:List Value} (h:w.ownsRow B e size v n xs) (hB:B'≤B):w.ownsRow B' e size v n xs:=by
 refine ⟨h.1,?_⟩;rcases h.2 with h | ⟨g,cap,cur,h1,h2,h3⟩
 ·exact .inl h
 ·exact .inr ⟨g,cap,cur,h1,Nat.le_trans hB h2,h3⟩
def DK (u v:Value):Prop:=u.ownBlock = none∨u.ownBlock≠v.ownBlock
theorem DK.symm {u v:Value} (h:DK u v):DK v u:=by
 unfold DK at *;rcases h with h | h
 ·cases hv:v.ownBlock with
  | none=>exact .inl rfl
  | some k=>right;rw [h];simp
 ·exact .inr (Ne.symm h)
theorem DK.grow {u u' v:Value} {w:World} {B e size n:Nat} {xs:List Value} (h:DK u v) (hv:w.ownsRow B e size v n xs) {N:Nat} (hN:w.heap.size≤N) (hat:u'.ownBlock = u.ownBlock∨u'.ownBlock = some N):DK u' v:=by
 rcases hat with hat | hat
 ·unfold DK at *;rw [hat];exact h
 ·right;rw [hat];intro e;have:=hv.lt N e.symm;omega
section
variable {P:Program} {t e:TypeId} {z:Value} {size bytes:Nat}
theorem uf (hE:DL P t e z size bytes) {ops:Array Oper} {rest:List Oper} {o:Oper} {a:Act} {Q:Exit→Act→World→Prop} (hgd:o.guard = none) (s x:Operand)
 (ho:o.op = .call { callee:=.builtin .append,args:=#[s,x],argTypes:=#[t,t] })
 (w:World) (base:Nat) (v:Value) (n:Nat) (xs:List Value) (hown:w.ownsRow base e size v n xs) (hs:a.eval s = v)
 (cs:List Value) (hx:a.eval x = .slice (some ⟨w.heap.size,0,none⟩) 1 1) (hl:cs.length = size) (h1:∀u∈cs,u.oneCell' = true)
 (hn:n≤2097152) (hby:bytes≤4096) (hbase:base≤w.heap.size)
 (h:∀v' w',w'.ownsRow base e size v' (n+1) (xs++cs)→w.grownBy w' v.ownBlock→w.heap.size+1≤w'.heap.size→(v'.ownBlock = v.ownBlock∨v'.ownBlock = some (w.heap.size+1))→wpList P ops Q rest (a.put o.dst v') w'):wpList P ops Q (o :: rest) a (w.alloc (.cells cs.toArray e)):=by
 obtain ⟨ht,hi0,hzs,hsz⟩:=hE;obtain ⟨i,hi,hz,hsize,hb⟩:=info_parts hi0;have hbb:(n+1) * bytes≤2097153 * 4096:=Nat.mul_le_mul O' hby;refine wpList_append_own_at (w.alloc (.cells cs.toArray e)) hgd s x t ho base e i z size bytes ht hi hz hsize hb hzs hsz v n xs hs (hown.alloc _) ⟨w.heap.size,0,none⟩ 1 1 cs hx O' ?_ h1 at6 O' (by simp;omega) ?_
 ·exact Zacg
 ·intro v' w' hown' hg _ hat;refine h v' w' hown' ⟨hg.os,hg.tape,hg.output,Nat.le_trans S' hg.size,fun k hk hne=>?_⟩ avU (by simpa using hat);rw [hg.block k (by simp;omega) hne];exact Below.heap_alloc _ _ _ hk
end
theorem Sl.oJ {α:Type} [Dat α] {w:World} {B:Nat} {e:TypeId} {v:Value} {xs:List α} {ds:List Value} {F:List Nat} (h0:w.ownsRow B e (Dat.size α) v xs.length ds) (h:jo w xs ds F):∃A c G,v = .slice A xs.length c∧Sl w xs A c G:=by
 rcases h0 with ⟨hl,⟨rfl,hn⟩ | ⟨g,cap,cur,rfl,hb,hh,hle,hm,hcs,ht⟩⟩
 ·obtain rfl:xs = []:=List.eq_nil_of_length_eq_zero hn;exact ⟨none,0,[],rfl,Sl.nil w none 0 (Nat.zero_le _)⟩
 ·have hg:g < w.heap.size:=by
   exact Zadj
  refine ⟨_,cap,g :: F,rfl,⟨_,cap,F,ds,rfl,hle,hm,h,.inr ⟨g,0,rfl,rfl,hg,fun j u hu=>?_⟩⟩⟩;rw [Nat.zero_add,cell_of_row w g j cur e (0,0) hh];exact Zacs
theorem Fv (w:World):∀(xs:List Int),(∀x∈xs,I64 x)→jo w xs (xs.map fun n=>.int .i64 n) []
 | [],_=>⟨rfl,rfl⟩
 | x :: xs,h=>⟨[.int .i64 x],_,[],[],rfl,rfl,jL w x (h x (List.mem_cons_self ..)),Fv w xs fun y hy=>h y (List.mem_cons_of_mem _ hy)⟩
theorem atB:(Tryz.prog.info? 3).map (fun i=>(i.zero,i.size,i.bytes)) = some (some (.int .i64 0),1,8):=by kernel_rfl
theorem adG:DL Tryz.prog 183 3 (.int .i64 0) 1 8:=⟨Tryz.underlying183,atB,rfl,O'⟩
theorem amj (n:Nat) (h:n < 256):B8 n.toUInt8 = .int .u8 (n:Int):=by
 unfold B8;congr 1;have:n.toUInt8.toNat = n:=by simp [Nat.toUInt8,UInt8.toNat_ofNat'];omega
 rw [this]
def zL (p s f:Int):Bool:=(decide (0≤p)&&decide (p≤10))&&(decide (0≤s)&&decide (s≤10))&&(decide (0≤f)&&decide (f≤10))
theorem kH (n a b:Int) (w:World):Calls Tryz.prog 52 #[.int .i64 n,.int .i64 a,.int .i64 b] w fun e w'=>e = .returned (.bool (decide (a≤n)&&decide (n≤b)))∧w = w':=by
 go_enter Tryz.func52,Tryz.ntmps52;go_wp2;all_goals go_ret
 all_goals simp [*]
 all_goals omega
theorem jc (n a b:Int) (w:World):Calls Tryz.prog 64 #[.int .i64 n,.int .i64 a,.int .i64 b] w fun e w'=>e = .returned (.bool (decide (a≤n)&&decide (n≤b)))∧w = w':=by
 go_enter Tryz.func64,Tryz.ntmps64;go_wp2;all_goals go_ret
 all_goals simp [*]
 all_goals omega
theorem pW (p s f:Int) (w:World):Calls Tryz.prog 53 #[.agg #[.int .i64 p,.int .i64 s,.int .i64 f]] w fun e w'=>e = .returned (.bool (zL p s f))∧Below w.heap.size w w':=by
 go_enter Tryz.func53,Tryz.ntmps53;go_wp2_with (go_at_call 52;refine (kH _ _ _ _).mono ?_;rintro e w' ⟨rfl,rfl⟩)
 all_goals go_ret
 all_goals exact ⟨by simp [zL, *],(Below.refl _ _).alloc (Nat.le_refl _) _⟩
theorem pU (p s f:Int) (w:World):Calls Tryz.prog 65 #[.agg #[.int .i64 p,.int .i64 s,.int .i64 f]] w fun e w'=>e = .returned (.bool (zL p s f))∧Below w.heap.size w w':=by
 go_enter Tryz.func65,Tryz.ntmps65;go_wp2_with (go_at_call 64;refine (jc _ _ _ _).mono ?_;rintro e w' ⟨rfl,rfl⟩)
 all_goals go_ret
 all_goals exact ⟨by simp [zL, *],(Below.refl _ _).alloc (Nat.le_refl _) _⟩
def dig (k:Nat):ByteArray:=⟨#[(k % 10+48).toUInt8]⟩
theorem amm (k:Nat):(dig k).size = 1:=rfl
def mtl (k:Nat) (out:ByteArray):ByteArray:=if h:k = 0 then out else mtl (k / 10) (dig k++out)
termination_by k
decreasing_by omega
theorem agC (out:ByteArray):mtl 0 out = out:=by rw [mtl,dif_pos rfl]
theorem apt {k:Nat} (h:0 < k) (out:ByteArray):mtl k out = mtl (k / 10) (dig k++out):=by rw [mtl,dif_neg O']
theorem amn:∀(n k:Nat) (out:ByteArray),k≤n→(mtl k out).size≤out.size+k
 | 0,k,out,h=>by
   obtain rfl:k = 0:=by omega
   rw [agC];omega
 | n+1,k,out,h=>by
   by_cases hk:k = 0
   ·subst hk;rw [agC];omega
   ·rw [apt O'];have:=amn n (k / 10) (dig k++out) O';rw [ByteArray.size_append] at this;have e:=amm k;omega
def lZ (k:Int):ByteArray:=if k≤0 then ⟨#[109,48]⟩ else ⟨#[109]⟩++mtl k.toNat ⟨#[]⟩
theorem agD (k:Int) (hk:k≤1073741824):(lZ k).size≤1073741828:=by
 unfold lZ;split
 ·decide
 ·rw [ByteArray.size_append];have:=amn k.toNat k.toNat ⟨#[]⟩ (Nat.le_refl _);have e1:(⟨#[109]⟩:ByteArray).size = 1:=rfl;have e2:(⟨#[]⟩:ByteArray).size = 0:=rfl;omega
theorem lW (k:Int) (w:World) (hk:k≤1073741824) (hk0:-9223372036854775808≤k):Calls Tryz.prog 82 #[.int .i64 k] w fun e w'=>e = .returned (.string (lZ k))∧Below w.heap.size w w':=by
 by_cases hneg:k≤0
 ·go_enter Tryz.func82,Tryz.ntmps82;go_wp2;go_ret
  exact ⟨by unfold lZ;rw [if_pos hneg];rfl,aj _⟩
 ·obtain ⟨m,rfl⟩:=Int.eq_ofNat_of_zero_le (show 0≤k by omega);have hfin:lZ (m:Int) = ⟨#[109]⟩++mtl m ⟨#[]⟩:=by unfold lZ;rw [if_neg hneg];rfl
  have HF:=I' hfin;have HM:=I' hk;clear hfin hk hk0;go_enter Tryz.func82,Tryz.ntmps82;go_wp2_with fail
  go_loopw [0,3] (fun x v wr=>∃(j:Nat) (out:ByteArray),x = .int .i64 j∧v = .string out∧Hid (mtl j out = mtl m ⟨#[]⟩)∧(out.size:Int)+j≤m∧Below w.heap.size w wr) (fun x _ _=>(intOf x).toNat)
  case atStart=>exact ⟨m,⟨#[]⟩,rfl,rfl,rfl,by show ((0:Nat):Int)+m≤m;omega,aj _⟩
  case round =>
   obtain ⟨j,out,rfl,rfl,hm,hs,hbl⟩:=hrel;by_cases hj:(0:Int) < (j:Int)
   ·have hM:=HM.out;have hout:(out.size:Int)≤1073741824:=O';clear hM;have hd:B8 (j % 10+48).toUInt8 = .int .u8 (48+(j:Int) % 10):=(by rw [amj _ O'];congr 1;omega)
    have hconv:(convert 176 9 (.slice (some ⟨wr.heap.size,0,none⟩) 1 1)).run Tryz.prog (wr.alloc (.cells #[.int .u8 (48+(j:Int) % 10)] 5)) = .ok (.string (dig j)) (wr.alloc (.cells #[.int .u8 (48+(j:Int) % 10)] 5)) :=
     run_convert_bytes_back _ 176 9 5 ⟨wr.heap.size,0,none⟩ 1 [(j % 10+48).toUInt8] Tryz.underlying176 Tryz.underlying5 Tryz.underlying9 (fun i hi=>by
      obtain rfl:i = 0:=by simpa using hi
      refine (cell_of_row _ wr.heap.size 0 #[.int .u8 (48+(j:Int) % 10)] 5 (0,0) (heap_alloc_new wr _)).trans ?_;rw [← hd]
      rfl)
    clear hd;have hds:=amm j;have hwr:wrap64 ((j:Int) / 10) = ((j / 10:Nat):Int):=(by have:=HM.out;unfold wrap64;omega);go_wp2_with fail
    refine ⟨⟨j / 10,_,by rw [hwr],rfl,?_,?_,ak hbl _⟩,?_⟩
    ·show _ = _;rw [← apt O'];exact hm.out
    ·rw [ByteArray.size_append,hds];omega
    ·rw [hwr];simp only [intOf];omega
   ·have hj0:j = 0:=O';subst hj0;have hm2:=hm.out;rw [agC] at hm2;subst hm2;have hM:=HM.out;have hout:((mtl m ⟨#[]⟩).size:Int)≤1073741824:=O';clear hM;go_wp2_with fail
    go_ret
    exact ⟨by rw [HF.out];rfl,hbl⟩
theorem EI (x y:Int) (w:World):Calls Tryz.prog 187 #[.int .i64 x,.int .i64 y] w fun e w'=>e = .returned (.int .i64 (Lib.compareInt x y))∧w' = w:=by
 go_enter Tryz.func187,Tryz.ntmps187;go_wp2;all_goals (go_ret;refine ⟨?_,rfl⟩;unfold Lib.compareInt;(repeat' split) <;> first | rfl | (exfalso;omega))
def Qa:List Int→Int
 | []=>0
 | x :: xs=>if x = 0 then Qa xs else x
theorem aqF {xs:List Int} {k:Nat} (h:k < xs.length):Qa (xs.drop k) = if xs[k] = 0 then Qa (xs.drop (k+1)) else xs[k]:=by
 rw [← List.getElem_cons_drop h];rfl
theorem afl (xs:List Int) (A:Option Addr) (n c:Nat) (F:List Nat) (w:World) (h:Sl w xs A c F) (hn:n = xs.length) (hl:(xs.length:Int)≤1048576) :
 Calls Tryz.prog 186 #[.slice A n c] w fun e w'=>e = .returned (.int .i64 (Qa xs))∧w' = w:=by
 subst hn;go_enter Tryz.func186,Tryz.ntmps186;go_wp2_with fail
 go_slots
 go_loop [8] (fun i=>∃k:Nat,k≤xs.length∧i = .int .i64 k∧Hid (Qa xs = Qa (xs.drop k))) (fun i=>xs.length - (intOf i).toNat)
 case atStart=>exact ⟨0,Nat.zero_le _,rfl,rfl⟩
 case round =>
  obtain ⟨k,hk,rfl,HO⟩:=hrel;by_cases hlt:k < xs.length
  ·obtain ⟨b,o,ck,Fk,rfl,o9,hbs,hr,hsub,hc⟩:=h.get hlt;obtain ⟨hck,su,hI⟩:=hr;subst hck su;have q0:w.cell? ⟨b,o+k,none⟩ = some (.int .i64 xs[k]):=(by have:=hc 0 _ rfl;rwa [show o+(k * Dat.size Int+0) = o+k from by show o+(k * 1+0) = _;omega] at this);clear hc;have hd:=aqF hlt;by_cases h0:xs[k] = 0
   ·rw [if_pos h0] at hd;have HN:=I' (HO.out.trans hd);clear hd;have hb0:(xs[k] == 0) = true:=(by simp [h0]);go_wp2;exact ⟨⟨k+1,O',N',HN.out⟩,by simp [intOf];omega⟩
   ·rw [if_neg h0] at hd;have HN:=I' (HO.out.trans hd);clear hd;have hb0:(xs[k] == 0) = false:=(by simp [h0]);exact Zadx
  ·have hkl:k = xs.length:=O';subst hkl;have ho:=HO.out;rw [List.drop_length] at ho;have HN:=I' ho;clear ho;exact Zadx
theorem BU (a b:Int):-1≤Lib.compareInt a b∧Lib.compareInt a b≤1:=by
 unfold Lib.compareInt;repeat' split
 all_goals omega
theorem Sl.Va (W:World) (xs:List Int) (t:TypeId) (h:∀x∈xs,I64 x) (hl:xs.length≤maxLen):Sl (W.alloc (.cells (xs.map fun n=>Value.int .i64 n).toArray t)) xs (some ⟨W.heap.size,0,none⟩) xs.length [W.heap.size] :=
 ⟨_,_,[],xs.map fun n=>.int .i64 n,rfl,Nat.le_refl _,hl,Fv _ xs h,.inr ⟨W.heap.size,0,rfl,rfl,S',fun j u hu=>by
   rw [Nat.zero_add,cell_of_row _ _ _ _ _ _ (heap_alloc_new W _)]
   simpa using hu⟩⟩
theorem Sl.ape {α:Type} [Dat α] {w:World} {xs:List α} {A:Option Addr} {c:Nat} {F:List Nat} (h:Sl w xs A c F):Sl w.drew xs A c F:=h.frame (fun _ _=>rfl) (Nat.le_refl _)
theorem I64.small {n:Int} (h:-1≤n∧n≤1):I64 n:=by unfold I64;omega
theorem Sl.ints3 (W:World) (a b c:Int) (t:TypeId) (ha:I64 a) (hb:I64 b) (hc:I64 c) (N:Nat) (hN:W.heap.size = N):Sl (W.alloc (.cells #[.int .i64 a,.int .i64 b,.int .i64 c] t)) [a,b,c] (some ⟨N,0,none⟩) 3 [N]:=by
 subst hN;exact Sl.Va W [a,b,c] t (by intro x hx;simp only [List.mem_cons,List.not_mem_nil,or_false] at hx;rcases hx with rfl | rfl | rfl <;> assumption) (by unfold maxLen;simp)
theorem abm (a b:ByteArray) (w:World):Calls Tryz.prog 190 #[.string a,.string b] w fun e w'=>e = .returned (.int .i64 (Lib.compareBytes a.data.toList b.data.toList))∧w' = w:=by
 go_enter Tryz.func190,Tryz.ntmps190;go_wp2;rw [run_callFunc_extern Tryz.func206 U' U' U' (e:=Extern.BytealgCompare.compare) U',Lib.run_compareString];simp only [Result.andThen];rw [Oper.upon_value];go_wp2;go_ret
 exact ⟨rfl,rfl⟩
theorem N8 (a b:ByteArray) (w:World):Calls Tryz.prog 166 #[.string a,.string b] w fun e w'=>e = .returned (.int .i64 (Lib.compareBytes a.data.toList b.data.toList))∧w' = w:=by
 go_enter Tryz.func166,Tryz.ntmps166;go_wp2_with fail
 refine (abm a b _).mono ?_;rintro e w' ⟨rfl,rfl⟩;go_wp2;go_ret
 exact ⟨rfl,rfl⟩
def GX (a b:Int):Option Int:=if a < 0∨b < 0∨9223372036854775807 - b < a then none else some (a+b)
theorem abW {a b t:Int} (h:GX a b = some t) (ha:I64 a) (hb:I64 b):I64 t:=by
 unfold GX at h;split at h
 ·cases h
 ·cases h
  unfold I64 at *;omega
def GZ:List Int→Int→Option Int
 | [],s=>some s
 | x :: xs,s=>match GX s x with | none=>none | some m=>GZ xs m
theorem J9 (a b:Int) (w:World) (ha:I64 a) (hb:I64 b):Calls Tryz.prog 184 #[.int .i64 a,.int .i64 b] w fun e w'=>e = .returned (.tuple #[.int .i64 ((GX a b).getD 0),.bool (GX a b).isSome])∧Below w.heap.size w w':=by
 obtain ⟨ha0,ha1⟩:=ha;obtain ⟨hb0,hb1⟩:=hb;by_cases h1:a < 0
 ·exact Zac7
 by_cases h2:b < 0
 ·exact Zac7
 by_cases h3:9223372036854775807 - b < a
 ·exact Zac7
 ·have e:GX a b = some (a+b):=by unfold GX;rw [if_neg O']
  rw [e];go_enter Tryz.func184,Tryz.ntmps184;go_wp2;go_returns
  exact ⟨rfl,aj _⟩
theorem oQ (a b:Int) (w:World) (ha:I64 a) (hb:I64 b):Calls Tryz.prog 183 #[.int .i64 a,.int .i64 b] w fun e w'=>e = .returned (.tuple #[.int .i64 ((GX a b).getD 0),.bool (GX a b).isSome])∧Below w.heap.size w w':=by
 obtain ⟨ha0,ha1⟩:=ha;obtain ⟨hb0,hb1⟩:=hb;by_cases h1:a < 0
 ·exact Zac8
 by_cases h2:b < 0
 ·exact Zac8
 by_cases h3:9223372036854775807 - b < a
 ·exact Zac8
 ·have e:GX a b = some (a+b):=by unfold GX;rw [if_neg O']
  rw [e];go_enter Tryz.func183,Tryz.ntmps183;go_wp2;go_returns
  exact ⟨rfl,aj _⟩
theorem acC (xs:List Int) (A:Option Addr) (n c:Nat) (F:List Nat) (w:World) (h:Sl w xs A c F) (hn:n = xs.length) (hl:(xs.length:Int)≤1048576) :
 Calls Tryz.prog 151 #[.slice A n c] w fun e w'=>e = .returned (.tuple #[.int .i64 ((GZ xs 0).getD 0),.bool (GZ xs 0).isSome])∧Below w.heap.size w w':=by
 subst hn;go_enter Tryz.func151,Tryz.ntmps151;go_wp2_with fail
 go_loopw [4,11] (fun x i wr=>∃(k:Nat) (s:Int),k≤xs.length∧i = .int .i64 k∧x = .int .i64 s∧I64 s∧Hid (GZ xs 0 = GZ (xs.drop k) s)∧Below w.heap.size w wr) (fun _ i _=>xs.length - (intOf i).toNat)
 case atStart=>exact ⟨0,0,Nat.zero_le _,rfl,rfl,⟨by decide,by decide⟩,rfl,aj _⟩
 case round =>
  obtain ⟨k,s,hk,rfl,rfl,hs,HS,hbl⟩:=hrel;by_cases hlt:k < xs.length
  ·obtain ⟨b,o,ck,Fk,rfl,o9,hbs,hr,hsub,hc⟩:=(Sl.ext (w':=wr) (A:=A) (c:=c) h hbl).get hlt;obtain ⟨hck,su,hI⟩:=hr;subst hck su;have q0:wr.cell? ⟨b,o+k,none⟩ = some (.int .i64 xs[k]):=(by have:=hc 0 _ rfl;rwa [show o+(k * Dat.size Int+0) = o+k from by show o+(k * 1+0) = _;omega] at this);clear hc;have hdr:GZ (xs.drop k) s = GZ (xs[k] :: xs.drop (k+1)) s:=(by rw [List.getElem_cons_drop]);have hsI:=hs;have hxI:=hI;generalize hxk:xs[k] = y at *;cases ha:GX s y with
   | none =>
     have hf:GZ xs 0 = none:=(by rw [HS.out,hdr,GZ,ha]);have HF:=I' hf;clear hf hdr;have HA:=I' ha;clear ha;go_wp2_with (go_at_call 184;refine (J9 s y _ hsI hxI).mono ?_;rw [HA.out];rintro e w2 ⟨rfl,hb2⟩)
     go_returns
     exact ⟨by rw [HF.out];rfl,ah hbl hb2⟩
   | some t =>
     have hf:GZ xs 0 = GZ (xs.drop (k+1)) t:=(by rw [HS.out,hdr,GZ,ha]);have HF:=I' hf;have htI:=abW ha hsI hxI;clear hf hdr;have HA:=I' ha;clear ha;go_wp2_with (go_at_call 184;refine (J9 s y _ hsI hxI).mono ?_;rw [HA.out];rintro e w2 ⟨rfl,hb2⟩)
     exact ⟨⟨k+1,t,O',N',rfl,htI,HF.out,ah hbl hb2⟩,by simp [intOf];omega⟩
  ·exact Zado
theorem acD (xs:List Int) (A:Option Addr) (n c:Nat) (F:List Nat) (w:World) (h:Sl w xs A c F) (hn:n = xs.length) (hl:(xs.length:Int)≤1048576) :
 Calls Tryz.prog 149 #[.slice A n c] w fun e w'=>e = .returned (.tuple #[.int .i64 ((GZ xs 0).getD 0),.bool (GZ xs 0).isSome])∧Below w.heap.size w w':=by
 subst hn;go_enter Tryz.func149,Tryz.ntmps149;go_wp2_with fail
 go_loopw [4,5] (fun x i wr=>∃(k:Nat) (s:Int),k≤xs.length∧i = .int .i64 k∧x = .int .i64 s∧I64 s∧Hid (GZ xs 0 = GZ (xs.drop k) s)∧Below w.heap.size w wr) (fun _ i _=>xs.length - (intOf i).toNat)
 case atStart=>exact ⟨0,0,Nat.zero_le _,rfl,rfl,⟨by decide,by decide⟩,rfl,aj _⟩
 case round =>
  obtain ⟨k,s,hk,rfl,rfl,hs,HS,hbl⟩:=hrel;by_cases hlt:k < xs.length
  ·obtain ⟨b,o,ck,Fk,rfl,o9,hbs,hr,hsub,hc⟩:=(Sl.ext (w':=wr) (A:=A) (c:=c) h hbl).get hlt;obtain ⟨hck,su,hI⟩:=hr;subst hck su;have q0:wr.cell? ⟨b,o+k,none⟩ = some (.int .i64 xs[k]):=(by have:=hc 0 _ rfl;rwa [show o+(k * Dat.size Int+0) = o+k from by show o+(k * 1+0) = _;omega] at this);clear hc;have hdr:GZ (xs.drop k) s = GZ (xs[k] :: xs.drop (k+1)) s:=(by rw [List.getElem_cons_drop]);have hsI:=hs;have hxI:=hI;generalize hxk:xs[k] = y at *;cases ha:GX s y with
   | none =>
     have hf:GZ xs 0 = none:=(by rw [HS.out,hdr,GZ,ha]);have HF:=I' hf;clear hf hdr;have HA:=I' ha;clear ha;go_wp2_with (go_at_call 183;refine (oQ s y _ hsI hxI).mono ?_;rw [HA.out];rintro e w2 ⟨rfl,hb2⟩)
     go_returns
     exact ⟨by rw [HF.out];rfl,ah hbl hb2⟩
   | some t =>
     have hf:GZ xs 0 = GZ (xs.drop (k+1)) t:=(by rw [HS.out,hdr,GZ,ha]);have HF:=I' hf;have htI:=abW ha hsI hxI;clear hf hdr;have HA:=I' ha;clear ha;go_wp2_with (go_at_call 183;refine (oQ s y _ hsI hxI).mono ?_;rw [HA.out];rintro e w2 ⟨rfl,hb2⟩)
     exact ⟨⟨k+1,t,O',N',rfl,htI,HF.out,ah hbl hb2⟩,by simp [intOf];omega⟩
  ·exact Zado
end Go.Proofs.YtkbkikggodlbbaaGreat
