/- NameOk, of the program and of the reference. No condition. -/
import Derived.Test.YtnedlmlpeplnfaaGreatData
import Derived.Test.YtnedlmlpeplnfaaGreatRegion
import Derived.Test.YtnedlmlpeplnfaaGreatRegionIx
import Derived.Maps.AppendAt
import Derived.Lib.Small
import Derived.Lib.Bytealg
namespace Go.Proofs.YtnedlmlpeplnfaaGreat
open Go.ChangeShapes Go.WideShapes Go.ChangeAt Go.RowKit
set_option linter.unusedVariables false
set_option linter.unusedSimpArgs false
set_option maxHeartbeats 1000000
set_option maxRecDepth 100000
def nmB (c:UInt8):Bool:=agP c.toNat || agQ c.toNat || decide ((c.toNat:Int) = 45)
def Qs (s:ByteArray):Bool:=decide (0 < s.size∧(s.size:Int)≤20)&&(!decide (((s.data.toList.getD 0 0).toNat:Int) = 45)&&!decide (((s.data.toList.getD (s.size - 1) 0).toNat:Int) = 45))&&s.data.toList.all nmB
theorem aiW (c:UInt8):(nmB c = false∧((c.toNat:Int) < 45∨(45 < (c.toNat:Int)∧(c.toNat:Int) < 48)∨(57 < (c.toNat:Int)∧(c.toNat:Int) < 65)∨(65≤(c.toNat:Int)∧(c.toNat:Int)≤90)∨(90 < (c.toNat:Int)∧(c.toNat:Int) < 97)∨122 < (c.toNat:Int))) ∨
 (nmB c = true∧((c.toNat:Int) = 45∨(48≤(c.toNat:Int)∧(c.toNat:Int)≤57)∨(97≤(c.toNat:Int)∧(c.toNat:Int)≤122))):=by
 cases h:nmB c
 ·left;refine ⟨rfl,?_⟩;unfold nmB agP agQ at h;simp at h;omega
 ·right;refine ⟨rfl,?_⟩;unfold nmB agP agQ at h;simp at h;omega
theorem amv {s:ByteArray} (hs:0 < s.size) (hl:(s.size:Int)≤20) (h0:(s[0].toNat:Int)≠45) (h1:(s[s.size - 1].toNat:Int)≠45) (ha:s.data.toList.all nmB = true):Qs s = true:=by
 unfold Qs;rw [DF hs,DF (show s.size - 1 < s.size by omega),ha];simp [hs,hl,h0,h1]
theorem aiX {s:ByteArray} (h:¬(0 < s.size∧(s.size:Int)≤20)):Qs s = false:=by unfold Qs;simp only [h,decide_false,Bool.false_and]
theorem adR {s:ByteArray} (hs:0 < s.size) (h:(s[0].toNat:Int) = 45):Qs s = false:=by unfold Qs;rw [DF hs];simp [h]
theorem agR {s:ByteArray} (hs:0 < s.size) (h:(s[s.size - 1].toNat:Int) = 45):Qs s = false:=by unfold Qs;rw [DF (show s.size - 1 < s.size by omega)];simp [h]
theorem agS {s:ByteArray} {k:Nat} (hk:k < s.size) (h:nmB s[k] = false):Qs s = false:=by unfold Qs;rw [TM hk h];simp
theorem Ro (s:ByteArray) (w:World) (hs2:(s.size:Int)≤1048576):Calls Tryz.prog 111 #[.string s] w fun e w'=>e = .returned (.bool (Qs s))∧Below w.heap.size w w':=by
 go_enter Tryz.func111,Tryz.ntmps111;go_wp2_with fail
 go_loop [7] (fun v=>∃(k:Nat),k≤s.size∧v = .int .i64 k∧Hid (∀j (hj:j < s.size),j < k→nmB s[j] = true)) (fun v=>s.size - (intOf v).toNat)
 case atStart=>exact ⟨0,Nat.zero_le _,rfl,fun j _ hj=>by omega⟩
 case round =>
  obtain ⟨k,hk,rfl,hall⟩:=hrel;by_cases hlt:k < s.size
  ·rcases aiW s[k] with ⟨hb,hr⟩ | ⟨hb,hr⟩
   ·exact Zabr
   ·have HN:=I' (X4 hlt hall.out hb);clear hb;rcases hr with hr | ⟨hr,hr2⟩ | ⟨hr,hr2⟩
    all_goals
     go_wp2;exact ⟨⟨k+1,O',N',HN.out⟩,by simp [intOf];omega⟩
  ·have hkl:k = s.size:=O';subst hkl;have ha:=I' (YX (p:=nmB) (fun j hj=>hall.out j hj hj));by_cases hln:0 < s.size∧(s.size:Int)≤20
   ·obtain ⟨hs,hl⟩:=hln;have hz:((s.size:Int) == 0) = false:=(by rw [beq_eq_false_iff_ne];omega);by_cases h0:(s[0].toNat:Int) = 45
    ·have HF:=I' (adR hs h0);skip
     exact Zaa9
    ·by_cases h1:(s[s.size - 1].toNat:Int) = 45
     ·have HF:=I' (agR hs h1);skip
      exact Zaa9
     ·have h0':((s[0].toNat:Int) != 45) = true:=(by simp [h0]);have h1':((s[s.size - 1].toNat:Int) != 45) = true:=(by simp [h1]);have h0'':((s[0].toNat:Int) == 45) = false:=(by simp [h0]);have h1'':((s[s.size - 1].toNat:Int) == 45) = false:=(by simp [h1]);have HF:=I' (amv hs hl h0 h1 ha.out);exact Zaa9
   ·have HF:=I' (aiX hln);have hln2:¬((1:Int)≤s.size∧(s.size:Int)≤20):=O';by_cases hs:0 < s.size
    ·have hz:((s.size:Int) == 0) = false:=(by rw [beq_eq_false_iff_ne];omega);have hgt:(20:Int) < s.size:=O';skip
     exact Zaa9
    ·have hs0:(s.size:Int) = 0:=O';skip
     exact Zaa9
theorem Rq (s:ByteArray) (w:World) (hs2:(s.size:Int)≤1048576):Calls Tryz.prog 85 #[.string s] w fun e w'=>e = .returned (.bool (Qs s))∧Below w.heap.size w w':=by
 by_cases hln:0 < s.size∧(s.size:Int)≤20
 ·obtain ⟨hs,hl⟩:=hln;have hz:((s.size:Int) == 0) = false:=by rw [beq_eq_false_iff_ne];omega
  by_cases h0:(s[0].toNat:Int) = 45
  ·have HF:=I' (adR hs h0);go_enter Tryz.func85,Tryz.ntmps85;exact Zaa9
  ·by_cases h1:(s[s.size - 1].toNat:Int) = 45
   ·have HF:=I' (agR hs h1);go_enter Tryz.func85,Tryz.ntmps85;exact Zaa9
   ·have h0':((s[0].toNat:Int) != 45) = true:=(by simp [h0]);have h1':((s[s.size - 1].toNat:Int) != 45) = true:=(by simp [h1]);have h0'':((s[0].toNat:Int) == 45) = false:=(by simp [h0]);have h1'':((s[s.size - 1].toNat:Int) == 45) = false:=(by simp [h1]);go_enter Tryz.func85,Tryz.ntmps85;go_wp2;go_loopw [3] (fun v wr=>∃(k:Nat),k≤s.size∧v = .int .i64 k∧Hid (∀j (hj:j < s.size),j < k→nmB s[j] = true)∧Below w.heap.size w wr) (fun v _=>s.size - (intOf v).toNat)
    case atStart=>exact ⟨0,Nat.zero_le _,rfl,(fun j _ hj=>by omega),aj _⟩
    case round =>
     obtain ⟨k,hk,rfl,hall,hbl⟩:=hrel;by_cases hlt:k < s.size
     ·rcases aiW s[k] with ⟨hb,hr⟩ | ⟨hb,hr⟩
      ·exact Zabr
      ·have HN:=I' (X4 hlt hall.out hb);clear hb;rcases hr with hr | ⟨hr,hr2⟩ | ⟨hr,hr2⟩
       all_goals
        go_wp2;exact ⟨⟨k+1,O',N',HN.out,hbl⟩,by simp [intOf];omega⟩
     ·have hkl:k = s.size:=O';subst hkl;have ha:=I' (YX (p:=nmB) (fun j hj=>hall.out j hj hj));have HF:=I' (amv hs hl h0 h1 ha.out);exact Zaa9
 ·have HF:=I' (aiX hln);have hln2:¬((1:Int)≤s.size∧(s.size:Int)≤20):=by omega
  by_cases hs:0 < s.size
  ·have hz:((s.size:Int) == 0) = false:=(by rw [beq_eq_false_iff_ne];omega);have hgt:(20:Int) < s.size:=O';go_enter Tryz.func85,Tryz.ntmps85;exact Zaa9
  ·have hs0:(s.size:Int) = 0:=O';go_enter Tryz.func85,Tryz.ntmps85;exact Zaa9
theorem mG {w w':World} {B e size n:Nat} {v:Value} {xs:List Value} (h:w.ownsRow B e size v n xs) (hb:Below w.heap.size w w'):w'.ownsRow B e size v n xs :=
 h.kept (row:=none) ⟨hb.os,hb.tape,hb.output,hb.size,fun k hk _=>hb.block k hk⟩ (by cases hv:v.ownBlock <;> simp)
theorem vP {w:World} {B B' e size n:Nat} {v:Value} {xs:List Value} (h:w.ownsRow B e size v n xs) (hB:B'≤B):w.ownsRow B' e size v n xs:=by
 refine ⟨h.1,?_⟩;rcases h.2 with h | ⟨g,cap,cur,h1,h2,h3⟩
 ·exact .inl h
 ·exact .inr ⟨g,cap,cur,h1,Nat.le_trans hB h2,h3⟩
def DK (u v:Value):Prop:=u.ownBlock = none∨u.ownBlock≠v.ownBlock
theorem DK.symm {u v:Value} (h:DK u v):DK v u:=by
 unfold DK at *;rcases h with h | h
 ·cases hv:v.ownBlock with
  | none=>exact .inl rfl
  | some k=>right;rw [h];simp
 ·exact .inr (Ne.symm h)
theorem DK.grow {u u' v:Value} {w:World} {B e size n:Nat} {xs:List Value} (h:DK u v) (hv:w.ownsRow B e size v n xs) {N:Nat} (hN:w.heap.size≤N) (hat:u'.ownBlock = u.ownBlock∨u'.ownBlock = some N):DK u' v:=by
 rcases hat with hat | hat
 ·unfold DK at *;rw [hat];exact h
 ·right;rw [hat];intro e;have:=hv.lt N e.symm;omega
section
variable {P:Program} {t e:TypeId} {z:Value} {size bytes:Nat}
theorem uf (hE:DL P t e z size bytes) {ops:Array Oper} {rest:List Oper} {o:Oper} {a:Act} {Q:Exit→Act→World→Prop} (hgd:o.guard = none) (s x:Operand)
 (ho:o.op = .call { callee:=.builtin .append,args:=#[s,x],argTypes:=#[t,t] })
 (w:World) (base:Nat) (v:Value) (n:Nat) (xs:List Value) (hown:w.ownsRow base e size v n xs) (hs:a.eval s = v)
 (cs:List Value) (hx:a.eval x = .slice (some ⟨w.heap.size,0,none⟩) 1 1) (hl:cs.length = size) (h1:∀u∈cs,u.oneCell' = true)
 (hn:n≤2097152) (hby:bytes≤4096) (hbase:base≤w.heap.size)
 (h:∀v' w',w'.ownsRow base e size v' (n+1) (xs++cs)→w.grownBy w' v.ownBlock→w.heap.size+1≤w'.heap.size→(v'.ownBlock = v.ownBlock∨v'.ownBlock = some (w.heap.size+1))→wpList P ops Q rest (a.put o.dst v') w'):wpList P ops Q (o :: rest) a (w.alloc (.cells cs.toArray e)):=by
 obtain ⟨ht,hi0,hzs,hsz⟩:=hE;obtain ⟨i,hi,hz,hsize,hb⟩:=info_parts hi0;have hbb:(n+1) * bytes≤2097153 * 4096:=Nat.mul_le_mul O' hby;refine wpList_append_own_at (w.alloc (.cells cs.toArray e)) hgd s x t ho base e i z size bytes ht hi hz hsize hb hzs hsz v n xs hs (hown.alloc _) ⟨w.heap.size,0,none⟩ 1 1 cs hx O' ?_ h1 at6 O' (by simp;omega) ?_
 ·intro j u hu;rw [Addr.add];have hc:=cell_of_row (w.alloc (.cells cs.toArray e)) w.heap.size j cs.toArray e (0,0) (heap_alloc_new w _);split
  ·rename_i hj;subst hj;rw [hc];simpa using hu
  ·simp only [Nat.zero_add];rw [hc];simpa using hu
 ·intro v' w' hown' hg _ hat;refine h v' w' hown' ⟨hg.os,hg.tape,hg.output,Nat.le_trans S' hg.size,fun k hk hne=>?_⟩ avU (by simpa using hat);rw [hg.block k (by simp;omega) hne];exact Below.heap_alloc _ _ _ hk
end
theorem Sl.oJ {α:Type} [Dat α] {w:World} {B:Nat} {e:TypeId} {v:Value} {xs:List α} {ds:List Value} {F:List Nat} (h0:w.ownsRow B e (Dat.size α) v xs.length ds) (h:jo w xs ds F):∃A c G,v = .slice A xs.length c∧Sl w xs A c G:=by
 rcases h0 with ⟨hl,⟨rfl,hn⟩ | ⟨g,cap,cur,rfl,hb,hh,hle,hm,hcs,ht⟩⟩
 ·obtain rfl:xs = []:=List.eq_nil_of_length_eq_zero hn;exact ⟨none,0,[],rfl,Sl.nil w none 0 (Nat.zero_le _)⟩
 ·have hg:g < w.heap.size:=by
   rcases Nat.lt_or_ge g w.heap.size with hlt | hge
   ·exact hlt
   ·rw [Array.getElem?_eq_none hge] at hh;cases hh
  refine ⟨_,cap,g :: F,rfl,⟨_,cap,F,ds,rfl,hle,hm,h,.inr ⟨g,0,rfl,rfl,hg,fun j u hu=>?_⟩⟩⟩;rw [Nat.zero_add,cell_of_row w g j cur e (0,0) hh];exact Zab9
theorem Fv (w:World):∀(xs:List Int),(∀x∈xs,I64 x)→jo w xs (xs.map fun n=>.int .i64 n) []
 | [],_=>⟨rfl,rfl⟩
 | x :: xs,h=>⟨[.int .i64 x],_,[],[],rfl,rfl,jL w x (h x (List.mem_cons_self ..)),Fv w xs fun y hy=>h y (List.mem_cons_of_mem _ hy)⟩
theorem EI (x y:Int) (w:World):Calls Tryz.prog 145 #[.int .i64 x,.int .i64 y] w fun e w'=>e = .returned (.int .i64 (Lib.compareInt x y))∧w' = w:=by
 go_enter Tryz.func145,Tryz.ntmps145;go_wp2;all_goals (go_ret;refine ⟨?_,rfl⟩;unfold Lib.compareInt;(repeat' split) <;> first | rfl | (exfalso;omega))
def Qa:List Int→Int
 | []=>0
 | x :: xs=>if x = 0 then Qa xs else x
theorem aqF {xs:List Int} {k:Nat} (h:k < xs.length):Qa (xs.drop k) = if xs[k] = 0 then Qa (xs.drop (k+1)) else xs[k]:=by
 rw [← List.getElem_cons_drop h];rfl
theorem afl (xs:List Int) (A:Option Addr) (n c:Nat) (F:List Nat) (w:World) (h:Sl w xs A c F) (hn:n = xs.length) (hl:(xs.length:Int)≤1048576) :
 Calls Tryz.prog 144 #[.slice A n c] w fun e w'=>e = .returned (.int .i64 (Qa xs))∧w' = w:=by
 subst hn;go_enter Tryz.func144,Tryz.ntmps144;go_wp2_with fail
 go_slots
 go_loop [8] (fun i=>∃k:Nat,k≤xs.length∧i = .int .i64 k∧Hid (Qa xs = Qa (xs.drop k))) (fun i=>xs.length - (intOf i).toNat)
 case atStart=>exact ⟨0,Nat.zero_le _,rfl,rfl⟩
 case round =>
  obtain ⟨k,hk,rfl,HO⟩:=hrel;by_cases hlt:k < xs.length
  ·obtain ⟨b,o,ck,Fk,rfl,o9,hbs,hr,hsub,hc⟩:=h.get hlt;obtain ⟨hck,su,hI⟩:=hr;subst hck su;have q0:w.cell? ⟨b,o+k,none⟩ = some (.int .i64 xs[k]):=(by have:=hc 0 _ rfl;rwa [show o+(k * Dat.size Int+0) = o+k from by show o+(k * 1+0) = _;omega] at this);clear hc;have hd:=aqF hlt;by_cases h0:xs[k] = 0
   ·rw [if_pos h0] at hd;have HN:=I' (HO.out.trans hd);clear hd;have hb0:(xs[k] == 0) = true:=(by simp [h0]);go_wp2;exact ⟨⟨k+1,O',N',HN.out⟩,by simp [intOf];omega⟩
   ·rw [if_neg h0] at hd;have HN:=I' (HO.out.trans hd);clear hd;have hb0:(xs[k] == 0) = false:=(by simp [h0]);exact Zacm
  ·have hkl:k = xs.length:=O';subst hkl;have ho:=HO.out;rw [List.drop_length] at ho;have HN:=I' ho;clear ho;exact Zacm
theorem BU (a b:Int):-1≤Lib.compareInt a b∧Lib.compareInt a b≤1:=by
 unfold Lib.compareInt;repeat' split
 all_goals omega
theorem Sl.Va (W:World) (xs:List Int) (t:TypeId) (h:∀x∈xs,I64 x) (hl:xs.length≤maxLen):Sl (W.alloc (.cells (xs.map fun n=>Value.int .i64 n).toArray t)) xs (some ⟨W.heap.size,0,none⟩) xs.length [W.heap.size] :=
 ⟨_,_,[],xs.map fun n=>.int .i64 n,rfl,Nat.le_refl _,hl,Fv _ xs h,.inr ⟨W.heap.size,0,rfl,rfl,S',fun j u hu=>by
   rw [Nat.zero_add,cell_of_row _ _ _ _ _ _ (heap_alloc_new W _)]
   simpa using hu⟩⟩
theorem Sl.ape {α:Type} [Dat α] {w:World} {xs:List α} {A:Option Addr} {c:Nat} {F:List Nat} (h:Sl w xs A c F):Sl w.drew xs A c F:=h.frame (fun _ _=>rfl) (Nat.le_refl _)
theorem I64.small {n:Int} (h:-1≤n∧n≤1):I64 n:=by unfold I64;omega
theorem Sl.ints3 (W:World) (a b c:Int) (t:TypeId) (ha:I64 a) (hb:I64 b) (hc:I64 c) (N:Nat) (hN:W.heap.size = N):Sl (W.alloc (.cells #[.int .i64 a,.int .i64 b,.int .i64 c] t)) [a,b,c] (some ⟨N,0,none⟩) 3 [N]:=by
 subst hN;exact Sl.Va W [a,b,c] t (by intro x hx;simp only [List.mem_cons,List.not_mem_nil,or_false] at hx;rcases hx with rfl | rfl | rfl <;> assumption) (by unfold maxLen;simp)
theorem abm (a b:ByteArray) (w:World):Calls Tryz.prog 137 #[.string a,.string b] w fun e w'=>e = .returned (.int .i64 (Lib.compareBytes a.data.toList b.data.toList))∧w' = w:=by
 go_enter Tryz.func137,Tryz.ntmps137;go_wp2;rw [run_callFunc_extern Tryz.func160 U' U' U' (e:=Extern.BytealgCompare.compare) U',Lib.run_compareString];simp only [Result.andThen];rw [Oper.upon_value];go_wp2;go_ret
 exact ⟨rfl,rfl⟩
theorem N8 (a b:ByteArray) (w:World):Calls Tryz.prog 96 #[.string a,.string b] w fun e w'=>e = .returned (.int .i64 (Lib.compareBytes a.data.toList b.data.toList))∧w' = w:=by
 go_enter Tryz.func96,Tryz.ntmps96;go_wp2_with fail
 refine (abm a b _).mono ?_;rintro e w' ⟨rfl,rfl⟩;go_wp2;go_ret
 exact ⟨rfl,rfl⟩
end Go.Proofs.YtnedlmlpeplnfaaGreat
