/- append of one element, and where the new row lies; several rows of the call's own side by side; a row read as a slice. No condition. -/
import Derived.Test.YtajbbmembionpaaGreatRegionIx
import Derived.Lib.SmallJoins
import Derived.Lib.Small
namespace Go.Proofs.YtajbbmembionpaaGreat
open Go.ChangeShapes Go.WideShapes Go.ChangeAt Go.RowKit
set_option linter.unusedVariables false
set_option linter.unusedSimpArgs false
set_option maxHeartbeats 2000000
set_option maxRecDepth 100000
theorem mG {w w':World} {B e size n:Nat} {v:Value} {xs:List Value} (h:w.ownsRow B e size v n xs) (X:Below w.heap.size w w'):w'.ownsRow B e size v n xs :=
 h.kept (row:=none) ⟨X.os,X.tape,X.output,X.size,fun k hk _=>X.block k hk⟩ (by cases hv:v.ownBlock <;> simp)
theorem vP {w:World} {B B' e size n:Nat} {v:Value} {xs:List Value} (h:w.ownsRow B e size v n xs) (hB:B'≤B):w.ownsRow B' e size v n xs:=by
 refine ⟨h.1,?_⟩;rcases h.2 with h | ⟨g,aq,dx,h1,h2,h3⟩
 ·exact .inl h
 ·exact .inr ⟨g,aq,dx,h1,Nat.le_trans hB h2,h3⟩
def DK (u v:Value):Prop:=u.ownBlock = none∨u.ownBlock≠v.ownBlock
theorem DK.symm {u v:Value} (h:DK u v):DK v u:=by
 unfold DK at *;rcases h with h | h
 ·cases hv:v.ownBlock with
  | none=>exact .inl rfl
  | some k=>right;rw [h];simp
 ·exact .inr (Ne.symm h)
theorem DK.grow {u u' v:Value} {w:World} {B e size n:Nat} {xs:List Value} (h:DK u v) (hv:w.ownsRow B e size v n xs) {N:Nat} (hN:w.heap.size≤N) (cY:u'.ownBlock = u.ownBlock∨u'.ownBlock = some N):DK u' v:=by
 rcases cY with cY | cY
 ·unfold DK at *;rw [cY];exact h
 ·right;rw [cY];intro e;have:=hv.lt N e.symm;omega
section
variable {P:Program} {t e:TypeId} {z:Value} {size bytes:Nat}
theorem uf (hE:DL P t e z size bytes) {ops:Array Oper} {rest:List Oper} {o:Oper} {a:Act} {Q:Exit→Act→World→Prop} (sl:o.guard = none) (s x:Operand)
 (ho:o.op = .call { callee:=.builtin .append,args:=#[s,x],argTypes:=#[t,t] })
 (w:World) (base:Nat) (v:Value) (n:Nat) (xs:List Value) (bk:w.ownsRow base e size v n xs) (hs:a.eval s = v)
 (cs:List Value) (hx:a.eval x = .slice (some ⟨w.heap.size,0,none⟩) 1 1) (hl:cs.length = size) (h1:∀u∈cs,u.oneCell' = true)
 (Z:n≤2097152) (mU:bytes≤4096) (dk:base≤w.heap.size)
 (h:∀v' w',w'.ownsRow base e size v' (n+1) (xs++cs)→w.grownBy w' v.ownBlock→w.heap.size+1≤w'.heap.size→(v'.ownBlock = v.ownBlock∨v'.ownBlock = some (w.heap.size+1))→wpList P ops Q rest (a.put o.dst v') w'):wpList P ops Q (o :: rest) a (w.alloc (.cells cs.toArray e)):=by
 obtain ⟨ht,hi0,lB,gT⟩:=hE;obtain ⟨i,hi,hz,hsize,X⟩:=info_parts hi0;have i7:(n+1) * bytes≤2097153 * 4096:=Nat.mul_le_mul J mU;refine wpList_append_own_at (w.alloc (.cells cs.toArray e)) sl s x t ho base e i z size bytes ht hi hz hsize X lB gT v n xs hs (bk.alloc _) ⟨w.heap.size,0,none⟩ 1 1 cs hx J ?_ h1 kD J (by simp;omega) ?_
 ·exact xw
 ·intro v' w' lZ hg _ cY;refine h v' w' lZ ⟨hg.os,hg.tape,hg.output,Nat.le_trans S' hg.size,fun k hk b4=>?_⟩ Qi (by simpa using cY);rw [hg.block k (by simp;omega) b4];exact Below.heap_alloc _ _ _ hk
end
theorem Sl.oJ {α:Type} [bc α] {w:World} {B:Nat} {e:TypeId} {v:Value} {xs:List α} {ds:List Value} {F:List Nat} (h0:w.ownsRow B e (bc.size α) v xs.length ds) (h:jo w xs ds F):∃A c G,v = .slice A xs.length c∧Sl w xs A c G:=by
 rcases h0 with ⟨hl,⟨rfl,Z⟩ | ⟨g,aq,dx,rfl,X,hh,gv,hm,cb,ht⟩⟩
 ·obtain rfl:xs = []:=List.eq_nil_of_length_eq_zero Z;exact ⟨none,0,[],rfl,Sl.nil w none 0 (Nat.zero_le _)⟩
 ·have hg:g < w.heap.size:=by
   exact xz
  refine ⟨_,aq,g :: F,rfl,⟨_,aq,F,ds,rfl,gv,hm,h,.inr ⟨g,0,rfl,rfl,hg,fun j u hu=>?_⟩⟩⟩;exact xo
theorem Fv (w:World):∀(xs:List Int),(∀x∈xs,br x)→jo w xs (xs.map fun n=>.int .i64 n) []
 | [],_=>⟨rfl,rfl⟩
 | x :: xs,h=>⟨[.int .i64 x],_,[],[],rfl,rfl,jL w x (h x (List.mem_cons_self ..)),Fv w xs fun y hy=>h y (List.mem_cons_of_mem _ hy)⟩
theorem VN:(Tryz.prog.info? 3).map (fun i=>(i.zero,i.size,i.bytes)) = some (some (.int .i64 0),1,8):=by kernel_rfl
theorem EI:DL Tryz.prog 42 3 (.int .i64 0) 1 8:=⟨Tryz.underlying42,VN,rfl,J⟩
def AK (k:Nat):ByteArray:=⟨#[(k % 10+48).toUInt8]⟩
theorem QA (k:Nat):(AK k).size = 1:=rfl
def sn (k:Nat) (out:ByteArray):ByteArray:=if h:k = 0 then out else sn (k / 10) (AK k++out)
termination_by k
decreasing_by omega
theorem L4 (out:ByteArray):sn 0 out = out:=by rw [sn,dif_pos rfl]
theorem QB {k:Nat} (h:0 < k) (out:ByteArray):sn k out = sn (k / 10) (AK k++out):=by rw [sn,dif_neg J]
theorem QD:∀(n k:Nat) (out:ByteArray),k≤n→(sn k out).size≤out.size+k
 | 0,k,out,h=>by obtain rfl:k = 0:=by omega
                 rw [L4];omega
 | n+1,k,out,h=>by
   by_cases hk:k = 0
   ·subst hk;rw [L4];omega
   ·rw [QB J];have:=QD n (k / 10) (AK k++out) J;rw [ByteArray.size_append,QA] at this;omega
def dC (k:Nat):ByteArray:=if k = 0 then ⟨#[48]⟩ else sn k ⟨#[]⟩
theorem oY (k:Nat):(dC k).size≤k+1:=by
 unfold dC;split
 ·show 1≤k+1;omega
 ·have:=QD k k ⟨#[]⟩ (Nat.le_refl _);have e:(⟨#[]⟩:ByteArray).size = 0:=rfl;omega
def zL (p s f:Int):Bool:=(decide (0≤p)&&decide (p≤10))&&(decide (0≤s)&&decide (s≤10))&&(decide (0≤f)&&decide (f≤10))
theorem kH (n a b:Int) (w:World):Calls Tryz.prog 48 #[.int .i64 n,.int .i64 a,.int .i64 b] w fun e w'=>e = .returned (.bool (decide (a≤n)&&decide (n≤b)))∧w = w':=by
 go_enter Tryz.func48,Tryz.ntmps48;go_wp2;all_goals go_ret
 all_goals simp [*]
 all_goals omega
theorem jc (n a b:Int) (w:World):Calls Tryz.prog 96 #[.int .i64 n,.int .i64 a,.int .i64 b] w fun e w'=>e = .returned (.bool (decide (a≤n)&&decide (n≤b)))∧w = w':=by
 go_enter Tryz.func96,Tryz.ntmps96;go_wp2;all_goals go_ret
 all_goals simp [*]
 all_goals omega
theorem pW (p s f:Int) (w:World):Calls Tryz.prog 49 #[.agg #[.int .i64 p,.int .i64 s,.int .i64 f]] w fun e w'=>e = .returned (.bool (zL p s f))∧Below w.heap.size w w':=by
 go_enter Tryz.func49,Tryz.ntmps49;go_wp2_with (go_at_call 48;refine (kH _ _ _ _).mono ?_;rintro e w' ⟨rfl,rfl⟩)
 all_goals go_ret
 all_goals exact ⟨by simp [zL, *],(Below.refl _ _).alloc (Nat.le_refl _) _⟩
theorem pU (p s f:Int) (w:World):Calls Tryz.prog 58 #[.agg #[.int .i64 p,.int .i64 s,.int .i64 f]] w fun e w'=>e = .returned (.bool (zL p s f))∧Below w.heap.size w w':=by
 go_enter Tryz.func58,Tryz.ntmps58;go_wp2_with (go_at_call 96;refine (jc _ _ _ _).mono ?_;rintro e w' ⟨rfl,rfl⟩)
 all_goals go_ret
 all_goals exact ⟨by simp [zL, *],(Below.refl _ _).alloc (Nat.le_refl _) _⟩
def qX (P:Program) (t:TypeId) (α:Type) [bc α]:Prop:=∀(H:Type) (enc:TypeId × Value→H) (w:World) (base fa:Nat) (spare:Nat→Bool) (held:Bool) (cs:List Value) (d:DataW H × List MemPlace),
 DataW.trod enc P w base spare held fa t cs = some d→∃(x:α) (F:List Nat),rd w x cs F
theorem yH {P:Program} {t e:TypeId} {α:Type} [bc α] (ht:P.underlying t = some (.slice e)) (hC:P.cellsOf e = bc.size α) (h:qX P e α):qX P t (List α):=by
 intro H enc w base fa spare held cs d hd;rcases Deep.open_slice ht hd with ⟨rfl,_⟩ | ⟨a,len,aq,m,n,D,Pl,rfl,X,hl,hm,hmm,hx,hi⟩
 ·exact ⟨[],[],Sl.nil w none 0 (Nat.zero_le _)⟩
 ·rcases Nat.eq_zero_or_pos len with rfl | fd
  ·exact ⟨[],[],Sl.nil w (some a) aq hm⟩
  ·have MP:len≤m:=(by rw [hmm];split <;> omega);have RP:=bc.pos (α:=α);have kn:a.spot = none∧a.block < w.heap.size:=by
    obtain ⟨MQ,hc,_⟩:=hi 0 J;obtain ⟨_,j8,cY⟩:=World.cells?_some hc;have h0:=cY (i:=0) J;simp only [Nat.zero_mul] at h0;have e0:(a.add 0).add 0 = a:=(by simp [Addr.add]);rw [e0] at h0;rw [List.getElem?_eq_getElem J] at h0;refine ⟨?_,World.block_lt_of_cell? w a h0⟩;unfold World.cell? at h0;split at h0
    ·split at h0
     ·cases h0
     ·rename_i hs;simpa using hs
    ·cases h0
   obtain ⟨b,o,sp⟩:=a;obtain ⟨rfl,hblt⟩:=kn;have step:∀k,k≤len→∃(xs:List α) (ds:List Value) (G:List Nat),xs.length = k∧jo w xs ds G∧∀j u,ds[j]? = some u→w.cell? ⟨b,o+j,none⟩ = some u:=by
    intro k;induction k with
    | zero=>exact fun _=>⟨[],[],[],rfl,⟨rfl,rfl⟩,fun j u hu=>by simp at hu⟩
    | succ k ih =>
      intro hk;obtain ⟨xs,ds,G,ot,hr,hc⟩:=ih J;obtain ⟨MQ,cb,htr⟩:=hi k J;obtain ⟨x,F,hxr⟩:=h H enc w base n spare held MQ _ htr;obtain ⟨_,j8,cY⟩:=World.cells?_some cb;refine ⟨xs++[x],ds++MQ,G++F,by simp [ot],hr.append (.single hxr),fun j u hu=>?_⟩;have gj:=hr.len;rw [ot] at gj;by_cases hj:j < ds.length
      ·exact hc j u (by rwa [List.getElem?_append_left hj] at hu)
      ·rw [List.getElem?_append_right J] at hu;have Qu:=(List.getElem?_eq_some_iff.1 hu).1;have h1:=cY (i:=j - ds.length) J;rw [hu,hC] at h1;have e1:((⟨b,o,none⟩:Addr).add (k * bc.size α)).add (j - ds.length) = ⟨b,o+j,none⟩:=by
        rw [Deep.add_add];unfold Addr.add;split
        ·simp <;> omega
        ·simp <;> omega
       rw [e1] at h1;exact h1
   obtain ⟨xs,ds,G,ot,hr,hc⟩:=step len (Nat.le_refl _);subst ot;exact ⟨xs,b :: G,_,aq,G,ds,rfl,hl,hm,hr,.inr ⟨b,o,rfl,rfl,hblt,hc⟩⟩
theorem Wr (n:Nat) (h:n < 256):B8 n.toUInt8 = .int .u8 (n:Int):=by
 unfold B8;congr 1;have:n.toUInt8.toNat = n:=by simp [Nat.toUInt8,UInt8.toNat_ofNat'];omega
 rw [this]
structure y8 where
 kind:Int
 name:ByteArray
 sz:cg
 weights:rZ
instance:bc y8:=bc.mz fun x=>(x.kind,x.name,x.sz,x.weights)
def kL {α:Type} (f:α→Nat) (xs:List α):Nat:=xs.length+(xs.map f).sum
abbrev AM (xs:List ByteArray):Nat:=kL ByteArray.size xs
theorem Bq {α:Type} {f:α→Nat} {xs:List α} {x:α} (h:x∈xs):f x≤kL f xs:=by
 unfold kL;induction xs with
 | nil=>cases h
 | cons y ys ih =>
   rcases List.mem_cons.1 h with rfl | h
   ·simp;omega
   ·have:=ih h;simp at this ⊢;omega
theorem rM {α:Type} {f:α→Nat} {xs:List α} {k:Nat} (h:k < xs.length):f xs[k]≤kL f xs:=Bq (List.getElem_mem h)
theorem gJ {α:Type} (f:α→Nat) (xs:List α):xs.length≤kL f xs:=by unfold kL;omega
def ap.wt (x:ap):Nat:=x.key.size+x.value.size
def aM.wt (x:aM):Nat:=x.key.size+AM x.values
def iU.wt (x:iU):Nat:=x.key.size+x.value.size
def bH.wt (x:bH):Nat:=x.key.size+x.value.size
def nI.wt (x:nI):Nat:=x.name.size+kL ap.wt x.labels+kL aM.wt x.ai+kL bH.wt x.ae
def ba.wt (x:ba):Nat:=x.name.size+kL ap.wt x.labels+kL iU.wt x.aT
def ag.wt (x:ag):Nat:=x.aS.wt+x.on.size
def aU.wt (x:aU):Nat:=kL ba.wt x.aa+kL ag.wt x.V
def cg.wt (x:cg):Nat:=x.aS.wt+x.bm.wt
def tV.wt (x:tV):Nat:=x.path.size
section
variable {α β:Type} [bc α] [bc β] {w:World} {B B2:Nat} {x:α} {y:β} {c1 c2:List Value} {F1 F2:List Nat}
theorem am.ez (h1:am w B x c1 F1) (h2:am w B2 y c2 F2) (hB:B≤B2) (hF:∀b∈F1,b < B2):am w B (x,y) (c1++c2) (F1++F2):=by
 refine ⟨⟨c1,c2,F1,F2,rfl,rfl,h1.rd,h2.rd⟩,?_,?_,?_⟩
 ·rw [List.nodup_append];exact ⟨h1.nodup,h2.nodup,fun a ha b X=>by have:=hF a ha;have:=h2.base b X;omega⟩
 ·intro b X;rcases List.mem_append.1 X with X | X
  ·exact h1.base b X
  ·exact Nat.le_trans hB (h2.base b X)
 ·intro b X;rcases List.mem_append.1 X with X | X
  ·exact h1.plain b X
  ·exact h2.plain b X
theorem am.up {γ:Type} {z:γ} {cs:List Value} {F:List Nat} {B':Nat} (g:γ→β) (h:am w B' (g z) cs F) (hB:B≤B'):@am γ (bc.mz g) w B z cs F :=
 @am.mk γ (bc.mz g) w B z cs F h.rd h.nodup (fun b X=>Nat.le_trans hB (h.base b X)) h.plain
theorem am.cons (h1:Go.Proofs.YtajbbmembionpaaGreat.bc.rd w x c1 []) (h2:am w B y c2 F2):am w B (x,y) (c1++c2) F2:=by
 have:=(am.cK (B:=B) h1).ez h2 (Nat.le_refl _) (fun b X=>by cases X);simpa using this
end
theorem Wt:(Tryz.prog.info? 9).map (fun i=>(i.zero,i.size,i.bytes)) = some (some (.string ⟨#[]⟩),1,16):=by kernel_rfl
theorem qw:DL Tryz.prog 40 9 (.string ⟨#[]⟩) 1 16:=⟨Tryz.underlying40,Wt,rfl,J⟩
theorem nx (d:Nat) (hd:d < 10) (w:World):Calls Tryz.prog 151 #[.int .i64 d] w fun e w'=>e = .returned (.int .u8 ((48:Int)+d))∧w = w':=by
 have h1:(d:Int) < 10:=by omega
 go_enter Tryz.func151,Tryz.ntmps151;go_wp2;go_ret
 exact ⟨by have:(48+(d:Int)) % 256 = 48+d:=by omega
           simp [this],rfl⟩
theorem gH (k:Nat) (hk:(k:Int)≤1048576) (w:World):Calls Tryz.prog 120 #[.int .i64 k] w fun e w'=>e = .returned (.string (dC k))∧Below w.heap.size w w':=by
 by_cases h0:k = 0
 ·subst h0;go_enter Tryz.func120,Tryz.ntmps120;go_wp2;go_ret
  exact ⟨rfl,aj _⟩
 ·have eV:(0:Int) < k:=by omega
  have HK:=I hk;have tN:¬(k:Int) < 0:=by omega
  have HD:=I (show sn k ⟨#[]⟩ = dC k by unfold dC;rw [if_neg h0]);clear hk h0;go_enter Tryz.func120,Tryz.ntmps120;go_wp2_with fail
  go_loopw [0,4] (fun x s wr=>∃(j:Nat) (out:ByteArray),x = .int .i64 j∧s = .string out∧j≤k∧Hid (sn j out = dC k)∧(out.size:Int)+j≤k∧Below w.heap.size w wr) (fun x _ _=>(intOf x).toNat)
  case atStart=>exact ⟨k,⟨#[]⟩,rfl,rfl,Nat.le_refl _,HD,by show ((0:Nat):Int)+k≤k;omega,aj _⟩
  case round =>
   obtain ⟨j,out,rfl,rfl,gl,hm,hs,aR⟩:=hrel;have hjm:(j:Int)≤1048576:=(by have:=HK.out;omega);by_cases hj:0 < j
   ·have lE:((j:Int) != 0) = true:=(by simp;omega);have hout:(out.size:Int)≤1048576:=(by have:=HK.out;omega);have hd:B8 (j % 10+48).toUInt8 = .int .u8 ((48:Int)+(j:Int) % 10):=(by rw [Wr _ J];congr 1;omega)
    have Hi:(convert 22 9 (.slice (some ⟨wr.heap.size,0,none⟩) 1 1)).run Tryz.prog (wr.alloc (.cells #[.int .u8 ((48:Int)+(j:Int) % 10)] 5)) = .ok (.string (AK j)) (wr.alloc (.cells #[.int .u8 ((48:Int)+(j:Int) % 10)] 5)) :=
     run_convert_bytes_back _ 22 9 5 ⟨wr.heap.size,0,none⟩ 1 [(j % 10+48).toUInt8] Tryz.underlying22 Tryz.underlying5 Tryz.underlying9 (fun i hi=>by
      obtain rfl:i = 0:=by simpa using hi
      refine (cell_of_row _ wr.heap.size 0 #[.int .u8 ((48:Int)+(j:Int) % 10)] 5 (0,0) (heap_alloc_new wr _)).trans ?_;rw [← hd]
      rfl)
    clear hd;have sv:=QA j;have nP:¬(j:Int) % 10 < 0:=J
    have HF:=I (show ∀wq:World,Calls Tryz.prog 151 #[.int .i64 ((j:Int) % 10)] wq fun e w'=>e = .returned (.int .u8 ((48:Int)+(j:Int) % 10))∧wq = w' from fun wq=>by
     have:=nx (j % 10) (Nat.mod_lt _ (by decide)) wq
     rwa [show ((j % 10:Nat):Int) = (j:Int) % 10 by omega] at this)
    have hwq:wrap64 ((j:Int) / 10) = ((j / 10:Nat):Int):=(by unfold wrap64;omega);go_wp2_with fail
    refine (HF.out wr).mono ?_;rintro e w1 ⟨rfl,rfl⟩;go_wp2;exact ⟨⟨j / 10,AK j++out,(by congr 1),rfl,J,I (by rw [← QB hj];exact hm.out),(by rw [ByteArray.size_append,sv];omega),ak aR _⟩,by simp only [intOf];omega⟩
   ·obtain rfl:j = 0:=by omega
    have HO:=I (show out = dC k by have:=hm.out;rwa [L4] at this);clear hm;go_wp2;go_ret
    exact ⟨by rw [← HO.out];rfl,aR⟩
def Qa:List Int→Int
 | []=>0
 | x :: xs=>if x = 0 then Qa xs else x
theorem br.small {n:Int} (h:-1≤n∧n≤1):br n:=by unfold br;omega
theorem Ce {a b:ByteArray} (h:(a.toList == b.toList) = true):a = b:=by
 have h1:a.toList = b.toList:=by simpa using h
 have h2:a.data.toList = b.data.toList:=by rw [← ByteArray.toList_eq,← ByteArray.toList_eq];exact h1
 cases a;cases b;simp_all
def l4 (a b:ByteArray):Bool:=a.toList == b.toList
theorem PW (a b:ByteArray):l4 a b = true↔a = b:=⟨Ce,fun h=>by subst h;simp [l4]⟩
def same {α:Type} (eq:α→α→Bool):List α→List α→Bool
 | [],[]=>true
 | a :: l,b :: m=>eq a b&&same eq l m
 | _,_=>false
def Aq (a b:iU):Bool:=(a.key.toList == b.key.toList)&&(a.value.toList == b.value.toList)&&(a.ao == b.ao)
theorem Xx (a b:iU):Aq a b = true↔a = b:=by
 constructor
 ·intro h;simp only [Aq,Bool.and_eq_true] at h;have h0:=Ce h.1.1;have h1:=Ce h.1.2;have h2:=eq_of_beq h.2;cases a;cases b
  simp only at h0 h1 h2;subst h0 h1 h2;rfl
 ·rintro rfl;simp [Aq, *]
def oP (a b:bH):Bool:=(a.key.toList == b.key.toList)&&(a.equal == b.equal)&&(a.value.toList == b.value.toList)&&(a.ao == b.ao)
theorem WC (a b:bH):oP a b = true↔a = b:=by
 constructor
 ·intro h;simp only [oP,Bool.and_eq_true] at h;have h0:=Ce h.1.1.1;have h1:=eq_of_beq h.1.1.2;have h2:=Ce h.1.2;have h3:=eq_of_beq h.2;cases a;cases b
  simp only at h0 h1 h2 h3;subst h0 h1 h2 h3;rfl
 ·rintro rfl;simp [oP, *]
theorem aZ {α:Type} [bc α] {w w':World} {x:α} {cs:List Value} {F:List Nat} (h:rd w x cs F) (X:Below w.heap.size w w'):rd w' x cs F :=
 bc.frame h (fun b ek=>X.block b (bc.lt h b ek)) X.size
def GX (a b:Int):Option Int:=if a < 0∨b < 0∨9223372036854775807 - b < a then none else some (a+b)
theorem JJ {a b t:Int} (h:GX a b = some t) (ha:br a) (X:br b):br t:=by
 unfold GX at h;split at h
 ·cases h
 ·cases h
  unfold br at *;omega
def GZ:List Int→Int→Option Int
 | [],s=>some s
 | x :: xs,s=>match GX s x with | none=>none | some m=>GZ xs m
theorem J9 (a b:Int) (w:World) (ha:br a) (X:br b):Calls Tryz.prog 90 #[.int .i64 a,.int .i64 b] w fun e w'=>e = .returned (.tuple #[.int .i64 ((GX a b).getD 0),.bool (GX a b).isSome])∧Below w.heap.size w w':=by
 obtain ⟨Xc,ha1⟩:=ha;obtain ⟨gm,bo⟩:=X;by_cases h1:a < 0
 ·exact xD
 by_cases h2:b < 0
 ·exact xD
 by_cases h3:9223372036854775807 - b < a
 ·exact xD
 ·have e:GX a b = some (a+b):=by unfold GX;rw [if_neg J]
  rw [e];go_enter Tryz.func90,Tryz.ntmps90;go_wp2;go_returns
  exact ⟨rfl,aj _⟩
theorem oQ (a b:Int) (w:World) (ha:br a) (X:br b):Calls Tryz.prog 130 #[.int .i64 a,.int .i64 b] w fun e w'=>e = .returned (.tuple #[.int .i64 ((GX a b).getD 0),.bool (GX a b).isSome])∧Below w.heap.size w w':=by
 obtain ⟨Xc,ha1⟩:=ha;obtain ⟨gm,bo⟩:=X;by_cases h1:a < 0
 ·exact xC
 by_cases h2:b < 0
 ·exact xC
 by_cases h3:9223372036854775807 - b < a
 ·exact xC
 ·have e:GX a b = some (a+b):=by unfold GX;rw [if_neg J]
  rw [e];go_enter Tryz.func130,Tryz.ntmps130;go_wp2;go_returns
  exact ⟨rfl,aj _⟩
theorem QZ (xs:List Int) (A:Option Addr) (n c:Nat) (F:List Nat) (w:World) (h:Sl w xs A c F) (Z:n = xs.length) (hl:(xs.length:Int)≤1048576) :
 Calls Tryz.prog 131 #[.slice A n c] w fun e w'=>e = .returned (.tuple #[.int .i64 ((GZ xs 0).getD 0),.bool (GZ xs 0).isSome])∧Below w.heap.size w w':=by
 subst Z;go_enter Tryz.func131,Tryz.ntmps131;go_wp2_with fail
 go_loopw [4,11] (fun x i wr=>∃(k:Nat) (s:Int),k≤xs.length∧i = .int .i64 k∧x = .int .i64 s∧br s∧Hid (GZ xs 0 = GZ (xs.drop k) s)∧Below w.heap.size w wr) (fun _ i _=>xs.length - (intOf i).toNat)
 case atStart=>exact ⟨0,0,Nat.zero_le _,rfl,rfl,⟨by decide,by decide⟩,rfl,aj _⟩
 case round =>
  obtain ⟨k,s,hk,rfl,rfl,hs,HS,aR⟩:=hrel;by_cases ax:k < xs.length
  ·obtain ⟨b,o,ck,Fk,rfl,o9,hbs,hr,bB,hc⟩:=(Sl.ext (w':=wr) (A:=A) (c:=c) h aR).get ax;obtain ⟨aE,su,hI⟩:=hr;subst aE su;have q0:wr.cell? ⟨b,o+k,none⟩ = some (.int .i64 xs[k]):=(by have:=hc 0 _ rfl;rwa [show o+(k * bc.size Int+0) = o+k from by show o+(k * 1+0) = _;omega] at this);clear hc;have tE:GZ (xs.drop k) s = GZ (xs[k] :: xs.drop (k+1)) s:=(by rw [List.getElem_cons_drop]);have yi:=hs;have yj:=hI;generalize hxk:xs[k] = y at *;cases ha:GX s y with
   | none =>
     have hf:GZ xs 0 = none:=(by rw [HS.out,tE,GZ,ha]);have HF:=I hf;clear hf tE;have HA:=I ha;clear ha;go_wp2_with (go_at_call 90;refine (J9 s y _ yi yj).mono ?_;rw [HA.out];rintro e w2 ⟨rfl,ar⟩)
     go_returns
     exact ⟨by rw [HF.out];rfl,ah aR ar⟩
   | some t =>
     have hf:GZ xs 0 = GZ (xs.drop (k+1)) t:=(by rw [HS.out,tE,GZ,ha]);have HF:=I hf;have L9:=JJ ha yi yj;clear hf tE;have HA:=I ha;clear ha;go_wp2_with (go_at_call 90;refine (J9 s y _ yi yj).mono ?_;rw [HA.out];rintro e w2 ⟨rfl,ar⟩)
     exact ⟨⟨k+1,t,J,N',rfl,L9,HF.out,ah aR ar⟩,by simp [intOf];omega⟩
  ·exact Dy
theorem Q0 (xs:List Int) (A:Option Addr) (n c:Nat) (F:List Nat) (w:World) (h:Sl w xs A c F) (Z:n = xs.length) (hl:(xs.length:Int)≤1048576) :
 Calls Tryz.prog 140 #[.slice A n c] w fun e w'=>e = .returned (.tuple #[.int .i64 ((GZ xs 0).getD 0),.bool (GZ xs 0).isSome])∧Below w.heap.size w w':=by
 subst Z;go_enter Tryz.func140,Tryz.ntmps140;go_wp2_with fail
 go_loopw [4,5] (fun x i wr=>∃(k:Nat) (s:Int),k≤xs.length∧i = .int .i64 k∧x = .int .i64 s∧br s∧Hid (GZ xs 0 = GZ (xs.drop k) s)∧Below w.heap.size w wr) (fun _ i _=>xs.length - (intOf i).toNat)
 case atStart=>exact ⟨0,0,Nat.zero_le _,rfl,rfl,⟨by decide,by decide⟩,rfl,aj _⟩
 case round =>
  obtain ⟨k,s,hk,rfl,rfl,hs,HS,aR⟩:=hrel;by_cases ax:k < xs.length
  ·obtain ⟨b,o,ck,Fk,rfl,o9,hbs,hr,bB,hc⟩:=(Sl.ext (w':=wr) (A:=A) (c:=c) h aR).get ax;obtain ⟨aE,su,hI⟩:=hr;subst aE su;have q0:wr.cell? ⟨b,o+k,none⟩ = some (.int .i64 xs[k]):=(by have:=hc 0 _ rfl;rwa [show o+(k * bc.size Int+0) = o+k from by show o+(k * 1+0) = _;omega] at this);clear hc;have tE:GZ (xs.drop k) s = GZ (xs[k] :: xs.drop (k+1)) s:=(by rw [List.getElem_cons_drop]);have yi:=hs;have yj:=hI;generalize hxk:xs[k] = y at *;cases ha:GX s y with
   | none =>
     have hf:GZ xs 0 = none:=(by rw [HS.out,tE,GZ,ha]);have HF:=I hf;clear hf tE;have HA:=I ha;clear ha;go_wp2_with (go_at_call 130;refine (oQ s y _ yi yj).mono ?_;rw [HA.out];rintro e w2 ⟨rfl,ar⟩)
     go_returns
     exact ⟨by rw [HF.out];rfl,ah aR ar⟩
   | some t =>
     have hf:GZ xs 0 = GZ (xs.drop (k+1)) t:=(by rw [HS.out,tE,GZ,ha]);have HF:=I hf;have L9:=JJ ha yi yj;clear hf tE;have HA:=I ha;clear ha;go_wp2_with (go_at_call 130;refine (oQ s y _ yi yj).mono ?_;rw [HA.out];rintro e w2 ⟨rfl,ar⟩)
     exact ⟨⟨k+1,t,J,N',rfl,L9,HF.out,ah aR ar⟩,by simp [intOf];omega⟩
  ·exact Dy
end Go.Proofs.YtajbbmembionpaaGreat
