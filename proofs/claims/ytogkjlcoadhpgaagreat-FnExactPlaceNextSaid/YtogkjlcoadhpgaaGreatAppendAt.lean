/- append of one element, and where the new row lies; several rows of the call's own side by side; a row read as a slice. No condition. -/
import Derived.Test.YtogkjlcoadhpgaaGreatAppend
import Derived.Maps.AppendAt
import Derived.Test.YtogkjlcoadhpgaaGreatWordsS
import Derived.Lib.Small
import Derived.Lib.Bytealg
import Derived.Test.YtogkjlcoadhpgaaGreatSz
namespace Go.Proofs.YtogkjlcoadhpgaaGreat
open Go.ChangeShapes Go.WideShapes Go.ChangeAt Go.RowKit
set_option linter.unusedVariables false
set_option linter.unusedSimpArgs false
theorem mG {w w':World} {B e size n:Nat} {v:Value} {xs:List Value} (h:w.ownsRow B e size v n xs) (hb:Below w.heap.size w w'):w'.ownsRow B e size v n xs :=
 h.kept (row:=none) ⟨hb.os,hb.tape,hb.output,hb.size,fun k hk _=>hb.block k hk⟩ (by cases hv:v.ownBlock <;> simp)
theorem vP {w:World} {B B' e size n:Nat} {v:Value} {xs:List Value} (h:w.ownsRow B e size v n xs) (hB:B'≤B):w.ownsRow B' e size v n xs:=by
 refine ⟨h.1,?_⟩
 rcases h.2 with h | ⟨g,cap,cur,h1,h2,h3⟩
 ·exact .inl h
 ·exact .inr ⟨g,cap,cur,h1,Nat.le_trans hB h2,h3⟩
def DK (u v:Value):Prop:=u.ownBlock = none∨u.ownBlock≠v.ownBlock
theorem DK.symm {u v:Value} (h:DK u v):DK v u:=by
 unfold DK at *
 rcases h with h | h
 ·cases hv:v.ownBlock with
  | none=>exact .inl rfl
  | some k=>right;rw [h];simp
 ·exact .inr (Ne.symm h)
theorem DK.grow {u u' v:Value} {w:World} {B e size n:Nat} {xs:List Value} (h:DK u v) (hv:w.ownsRow B e size v n xs) {N:Nat} (hN:w.heap.size≤N) (hat:u'.ownBlock = u.ownBlock∨u'.ownBlock = some N):DK u' v:=by
 rcases hat with hat | hat
 ·unfold DK at *;rw [hat];exact h
 ·right
  rw [hat]
  intro e
  have:=hv.lt N e.symm
  omega
section
variable {P:Program} {t e:TypeId} {z:Value} {size bytes:Nat}
theorem uf (hE:DL P t e z size bytes) {ops:Array Oper} {rest:List Oper} {o:Oper} {a:Act} {Q:Exit→Act→World→Prop} (hgd:o.guard = none) (s x:Operand)
 (ho:o.op = .call { callee:=.builtin .append,args:=#[s,x],argTypes:=#[t,t] })
 (w:World) (base:Nat) (v:Value) (n:Nat) (xs:List Value) (hown:w.ownsRow base e size v n xs) (hs:a.eval s = v)
 (cs:List Value) (hx:a.eval x = .slice (some ⟨w.heap.size,0,none⟩) 1 1) (hl:cs.length = size) (h1:∀u∈cs,u.oneCell' = true)
 (hn:n≤2097152) (hby:bytes≤4096) (hbase:base≤w.heap.size)
 (h:∀v' w',w'.ownsRow base e size v' (n+1) (xs++cs)→w.grownBy w' v.ownBlock→w.heap.size+1≤w'.heap.size→(v'.ownBlock = v.ownBlock∨v'.ownBlock = some (w.heap.size+1))→wpList P ops Q rest (a.put o.dst v') w'):wpList P ops Q (o :: rest) a (w.alloc (.cells cs.toArray e)):=by
 obtain ⟨ht,hi0,hzs,hsz⟩:=hE
 obtain ⟨i,hi,hz,hsize,hb⟩:=info_parts hi0
 have hbb:(n+1) * bytes≤2097153 * 4096:=Nat.mul_le_mul (by omega) hby
 refine wpList_append_own_at (w.alloc (.cells cs.toArray e)) hgd s x t ho base e i z size bytes ht hi hz hsize hb hzs hsz v n xs hs (hown.alloc _) ⟨w.heap.size,0,none⟩ 1 1 cs hx (by omega) ?_ h1 at6 (by omega) (by simp;omega) ?_
 ·exact Zab6
 ·intro v' w' hown' hg _ hat
  refine h v' w' hown' ⟨hg.os,hg.tape,hg.output,Nat.le_trans (by simp) hg.size,fun k hk hne=>?_⟩ avU (by simpa using hat)
  rw [hg.block k (by simp;omega) hne]
  exact Below.heap_alloc _ _ _ hk
end
theorem Sl.oJ {α:Type} [Dat α] {w:World} {B:Nat} {e:TypeId} {v:Value} {xs:List α} {ds:List Value} {F:List Nat} (h0:w.ownsRow B e (Dat.size α) v xs.length ds) (h:jo w xs ds F):∃A c G,v = .slice A xs.length c∧Sl w xs A c G:=by
 rcases h0 with ⟨hl,⟨rfl,hn⟩ | ⟨g,cap,cur,rfl,hb,hh,hle,hm,hcs,ht⟩⟩
 ·obtain rfl:xs = []:=List.eq_nil_of_length_eq_zero hn
  exact ⟨none,0,[],rfl,Sl.nil w none 0 (Nat.zero_le _)⟩
 ·have hg:g < w.heap.size:=by
   rcases Nat.lt_or_ge g w.heap.size with hlt | hge
   ·exact hlt
   ·rw [Array.getElem?_eq_none hge] at hh;cases hh
  refine ⟨_,cap,g :: F,rfl,⟨_,cap,F,ds,rfl,hle,hm,h,.inr ⟨g,0,rfl,rfl,hg,fun j u hu=>?_⟩⟩⟩
  rw [Nat.zero_add,cell_of_row w g j cur e (0,0) hh]
  exact Zac3
theorem Fv (w:World):∀(xs:List Int),(∀x∈xs,I64 x)→jo w xs (xs.map fun n=>.int .i64 n) []
 | [],_=>⟨rfl,rfl⟩
 | x :: xs,h=>⟨[.int .i64 x],_,[],[],rfl,rfl,jL w x (h x (List.mem_cons_self ..)),Fv w xs fun y hy=>h y (List.mem_cons_of_mem _ hy)⟩
theorem atB:(Tryz.prog.info? 3).map (fun i=>(i.zero,i.size,i.bytes)) = some (some (.int .i64 0),1,8):=by kernel_rfl
theorem adG:DL Tryz.prog 87 3 (.int .i64 0) 1 8:=⟨Tryz.underlying87,atB,rfl,by omega⟩
end Go.Proofs.YtogkjlcoadhpgaaGreat
namespace Go.Proofs.YtogkjlcoadhpgaaGreat
open Go.ChangeShapes Go.WideShapes Go.ChangeAt Go.RowKit
set_option linter.unusedVariables false
set_option linter.unusedSimpArgs false
theorem EI (x y:Int) (w:World):Calls Tryz.prog 57 #[.int .i64 x,.int .i64 y] w fun e w'=>e = .returned (.int .i64 (Lib.compareInt x y))∧w' = w:=by
 go_enter Tryz.func57,Tryz.ntmps57
 go_wp2
 all_goals (go_ret;refine ⟨?_,rfl⟩;unfold Lib.compareInt;(repeat' split) <;> first | rfl | (exfalso;omega))
def Qa:List Int→Int
 | []=>0
 | x :: xs=>if x = 0 then Qa xs else x
theorem aqF {xs:List Int} {k:Nat} (h:k < xs.length):Qa (xs.drop k) = if xs[k] = 0 then Qa (xs.drop (k+1)) else xs[k]:=by
 rw [← List.getElem_cons_drop h];rfl
set_option maxRecDepth 100000 in
set_option maxHeartbeats 400000 in
theorem afl (xs:List Int) (A:Option Addr) (n c:Nat) (F:List Nat) (w:World) (h:Sl w xs A c F) (hn:n = xs.length) (hl:(xs.length:Int)≤1048576) :
 Calls Tryz.prog 56 #[.slice A n c] w fun e w'=>e = .returned (.int .i64 (Qa xs))∧w' = w:=by
 subst hn
 go_enter Tryz.func56,Tryz.ntmps56
 go_wp2_with fail
 go_slots
 go_loop [8] (fun i=>∃k:Nat,k≤xs.length∧i = .int .i64 k∧Hid (Qa xs = Qa (xs.drop k))) (fun i=>xs.length - (intOf i).toNat)
 case atStart=>exact ⟨0,Nat.zero_le _,rfl,rfl⟩
 case round =>
  obtain ⟨k,hk,rfl,HO⟩:=hrel
  by_cases hlt:k < xs.length
  ·obtain ⟨b,o,ck,Fk,rfl,o9,hbs,hr,hsub,hc⟩:=h.get hlt
   obtain ⟨hck,su,hI⟩:=hr
   subst hck su
   have q0:w.cell? ⟨b,o+k,none⟩ = some (.int .i64 xs[k]):=by have:=hc 0 _ rfl;rwa [show o+(k * Dat.size Int+0) = o+k from by show o+(k * 1+0) = _;omega] at this
   clear hc
   have hd:=aqF hlt
   by_cases h0:xs[k] = 0
   ·rw [if_pos h0] at hd
    have HN:=Lib.hid (HO.out.trans hd)
    clear hd
    have hb0:(xs[k] == 0) = true:=by simp [h0]
    go_wp2
    exact ⟨⟨k+1,by omega,by go_num,HN.out⟩,by simp [intOf];omega⟩
   ·rw [if_neg h0] at hd
    have HN:=Lib.hid (HO.out.trans hd)
    clear hd
    have hb0:(xs[k] == 0) = false:=by simp [h0]
    exact Zado
  ·have hkl:k = xs.length:=by omega
   subst hkl
   have ho:=HO.out
   rw [List.drop_length] at ho
   have HN:=Lib.hid ho
   clear ho
   exact Zado
theorem BU (a b:Int):-1≤Lib.compareInt a b∧Lib.compareInt a b≤1:=by
 unfold Lib.compareInt
 repeat' split
 all_goals omega
theorem Sl.Va (W:World) (xs:List Int) (t:TypeId) (h:∀x∈xs,I64 x) (hl:xs.length≤maxLen):Sl (W.alloc (.cells (xs.map fun n=>Value.int .i64 n).toArray t)) xs (some ⟨W.heap.size,0,none⟩) xs.length [W.heap.size] :=
 ⟨_,_,[],xs.map fun n=>.int .i64 n,rfl,Nat.le_refl _,hl,Fv _ xs h,.inr ⟨W.heap.size,0,rfl,rfl,by simp,fun j u hu=>by
   rw [Nat.zero_add,cell_of_row _ _ _ _ _ _ (heap_alloc_new W _)]
   simpa using hu⟩⟩
theorem Sl.ape {α:Type} [Dat α] {w:World} {xs:List α} {A:Option Addr} {c:Nat} {F:List Nat} (h:Sl w xs A c F):Sl w.drew xs A c F:=h.frame (fun _ _=>rfl) (Nat.le_refl _)
theorem I64.small {n:Int} (h:-1≤n∧n≤1):I64 n:=by unfold I64;omega
theorem Sl.ints3 (W:World) (a b c:Int) (t:TypeId) (ha:I64 a) (hb:I64 b) (hc:I64 c) (N:Nat) (hN:W.heap.size = N):Sl (W.alloc (.cells #[.int .i64 a,.int .i64 b,.int .i64 c] t)) [a,b,c] (some ⟨N,0,none⟩) 3 [N]:=by
 subst hN
 exact Sl.Va W [a,b,c] t (by intro x hx;simp only [List.mem_cons,List.not_mem_nil,or_false] at hx;rcases hx with rfl | rfl | rfl <;> assumption) (by unfold maxLen;simp)
end Go.Proofs.YtogkjlcoadhpgaaGreat
namespace Go.Proofs.YtogkjlcoadhpgaaGreat
open Go.ChangeShapes Go.WideShapes Go.ChangeAt Go.RowKit
set_option linter.unusedVariables false
set_option linter.unusedSimpArgs false
set_option maxRecDepth 100000 in
theorem abm (a b:ByteArray) (w:World):Calls Tryz.prog 184 #[.string a,.string b] w fun e w'=>e = .returned (.int .i64 (Lib.compareBytes a.data.toList b.data.toList))∧w' = w:=by
 go_enter Tryz.func184,Tryz.ntmps184
 go_wp2
 rw [run_callFunc_extern Tryz.func197 (by kernel_rfl) (by kernel_rfl) (by kernel_rfl) (e:=Extern.BytealgCompare.compare) (by kernel_rfl),Lib.run_compareString]
 simp only [Result.andThen]
 rw [Oper.upon_value]
 go_wp2
 go_ret
 exact ⟨rfl,rfl⟩
theorem N8 (a b:ByteArray) (w:World):Calls Tryz.prog 163 #[.string a,.string b] w fun e w'=>e = .returned (.int .i64 (Lib.compareBytes a.data.toList b.data.toList))∧w' = w:=by
 go_enter Tryz.func163,Tryz.ntmps163
 go_wp2_with fail
 refine (abm a b _).mono ?_
 rintro e w' ⟨rfl,rfl⟩
 go_wp2
 go_ret
 exact ⟨rfl,rfl⟩
end Go.Proofs.YtogkjlcoadhpgaaGreat
namespace Go.Proofs.YtogkjlcoadhpgaaGreat
open Go.ChangeShapes Go.WideShapes Go.ChangeAt Go.RowKit
set_option linter.unusedVariables false
set_option linter.unusedSimpArgs false
section
variable {α β:Type} [Dat α] [Dat β] {w:World} {B B2:Nat} {x:α} {y:β} {c1 c2:List Value} {F1 F2:List Nat}
theorem Own.pair (h1:Own w B x c1 F1) (h2:Own w B2 y c2 F2) (hB:B≤B2) (hF:∀b∈F1,b < B2):Own w B (x,y) (c1++c2) (F1++F2):=by
 refine ⟨⟨c1,c2,F1,F2,rfl,rfl,h1.rd,h2.rd⟩,?_,?_,?_⟩
 ·rw [List.nodup_append]
  exact ⟨h1.nodup,h2.nodup,fun a ha b hb=>by have:=hF a ha;have:=h2.base b hb;omega⟩
 ·intro b hb
  rcases List.mem_append.1 hb with hb | hb
  ·exact h1.base b hb
  ·exact Nat.le_trans hB (h2.base b hb)
 ·intro b hb
  rcases List.mem_append.1 hb with hb | hb
  ·exact h1.plain b hb
  ·exact h2.plain b hb
theorem Own.up {γ:Type} {z:γ} {cs:List Value} {F:List Nat} {B':Nat} (g:γ→β) (h:Own w B' (g z) cs F) (hB:B≤B'):@Own γ (Dat.iso g) w B z cs F :=
 @Own.mk γ (Dat.iso g) w B z cs F h.rd h.nodup (fun b hb=>Nat.le_trans hB (h.base b hb)) h.plain
theorem ahD {P:Program} {fn:FuncId} {args:Array Value} {w:World} {o0 o1 o2:Obj} {R:Ending→World→Prop}
 (h:∀W:World,W.heap[w.heap.size]? = some o0→W.heap[w.heap.size+1]? = some o1→W.heap[w.heap.size+1+1]? = some o2→W.heap.size = w.heap.size+1+1+1→Below w.heap.size w W→Calls P fn args W R) :
 Calls P fn args (((w.alloc o0).alloc o1).alloc o2) R:=by
 have e0:=heap_alloc_new w o0
 have e1:=heap_alloc_new (w.alloc o0) o1
 have e2:=heap_alloc_new ((w.alloc o0).alloc o1) o2
 have s0:(w.alloc o0).heap.size = w.heap.size+1:=by simp
 have s1:((w.alloc o0).alloc o1).heap.size = w.heap.size+1+1:=by simp
 refine h _ ?_ ?_ ?_ (by simp) (ak (ak (ak (aj _) _) _) _)
 ·rw [Below.heap_alloc _ _ _ (by omega),Below.heap_alloc _ _ _ (by omega),e0]
 ·rw [Below.heap_alloc _ _ _ (by omega)]
  rw [s0] at e1
  exact e1
 ·rw [s1] at e2
  exact e2
theorem MX {w:World} {g:Nat} {c:Array Value} {t:TypeId} (h:w.heap[g]? = some (.cells c t)):∀j,w.frozen? ⟨g,j,none⟩ = false:=fun j=>by simp [World.frozen?,h]
theorem P7 {w:World} {g:Nat} {c:Array Value} {t:TypeId} (h:w.heap[g]? = some (.cells c t)):∀j,w.cell? ⟨g,j,none⟩ = c[j]?:=fun j=>cell_of_row w g j c t (0,0) h
theorem Own.cons (h1:Go.Proofs.YtogkjlcoadhpgaaGreat.Dat.rd w x c1 []) (h2:Own w B y c2 F2):Own w B (x,y) (c1++c2) F2:=by
 have:=(Own.flat (B:=B) h1).pair h2 (Nat.le_refl _) (fun b hb=>by cases hb)
 simpa using this
end
theorem ao2:(Tryz.prog.info? 9).map (fun i=>(i.zero,i.size,i.bytes)) = some (some (.string ⟨#[]⟩),1,16):=by kernel_rfl
theorem qw:DL Tryz.prog 44 9 (.string ⟨#[]⟩) 1 16:=⟨Tryz.underlying44,ao2,rfl,by omega⟩
set_option maxHeartbeats 1000000 in
theorem aaf (xs:List ByteArray) (A:Option Addr) (c:Nat) (F:List Nat) (w:World) (h:Sl w xs A c F) (hl:(kL ByteArray.size xs:Int)≤1048576) :
 Calls Tryz.prog 180 #[.slice A xs.length c] w fun e w'=>∃A c F,e = .returned (.slice A xs.length c)∧Own w' w.heap.size xs [.slice A xs.length c] F∧Below w.heap.size w w':=by
 have hlen:(xs.length:Int)≤1048576:=by have:=gJ ByteArray.size xs;omega
 have HL:=Lib.hid hl
 clear hl
 have hmk:=run_make_full qw (by omega) xs.length (by omega)
 go_enter Tryz.func180,Tryz.ntmps180
 go_wp2_with fail
 go_loopw [4] (fun i wr=>∃(k:Nat) (ds:List Value) (G:List Nat),k≤xs.length∧i = .int .i64 k∧Fill wr w.heap.size 9 xs.length ds∧Hid (ds.length = k * 1)∧aY wr (w.heap.size+1) (xs.take k) ds G∧Below w.heap.size w wr) (fun i _=>xs.length - (intOf i).toNat)
 case atStart=>exact ⟨0,[],[],Nat.zero_le _,rfl,by have:=Fill.made w 9 #[.string ⟨#[]⟩] (xs.length * 1) auF;simpa using this,by show _ = _;simp,.nil _ _,ak (aj _) _⟩
 case round =>
  obtain ⟨k,ds,G,hk,rfl,hf,hd,hO,hbl⟩:=hrel
  by_cases hlt:k < xs.length
  ·obtain ⟨b,o,ck,Fk,rfl,o9,hbs,hr,hsub,hc⟩:=(h.ext hbl).get hlt
   obtain ⟨rfl,rfl,hs0⟩:=hr
   have q0:wr.cell? ⟨b,o+k,none⟩ = some (.string xs[k]):=by have:=hc 0 _ rfl;simpa [Dat.size] using this
   clear hc
   have hwk:=rM (f:=ByteArray.size) hlt
   have PU:(ByteArray.size xs[k]:Int)≤1048576:=by have:=HL.out;omega
   clear hwk
   have hf2:=hf
   obtain ⟨u0,hu0⟩:=hf2.cell (i:=k) (by omega);have aeV:=hf2.frozen (k)
   go_wp2_with fail
   have hF:=(hf2.gU (o:=k) auz (by omega) (.string xs[k]))
   have hO3:=hO
   replace hO3:=hO3.setCell (p:=⟨w.heap.size,k,none⟩) (Nat.lt_succ_self _) (.string xs[k])
   have hP:=hO3.push (B':=wr.heap.size) (x:=xs[k]) (.flat ⟨rfl,rfl,hs0⟩) hf.lt hO.lt
   rw [← List.take_succ_eq_append_getElem hlt] at hP
   (try simp only [List.append_assoc,List.cons_append,List.nil_append] at hF)
   exact ⟨⟨k+1,_,_,by omega,by go_num,hF,by show _ = _;(simp [hd.out]) <;> omega,hP,aC (hbl) (Nat.le_refl _) _⟩,by simp [intOf];omega⟩
  ·exact Zabl
end Go.Proofs.YtogkjlcoadhpgaaGreat
namespace Go.Proofs.YtogkjlcoadhpgaaGreat
open Go.ChangeShapes Go.WideShapes Go.ChangeAt Go.RowKit
set_option linter.unusedVariables false
set_option linter.unusedSimpArgs false
theorem adk:(Tryz.prog.info? 126).map (fun i=>(i.zero,i.size,i.bytes)) = some (some (.agg #[.string ⟨#[]⟩,.string ⟨#[]⟩,.int .i64 0]),3,40):=by kernel_rfl
theorem ae5:DL Tryz.prog 69 126 (.agg #[.string ⟨#[]⟩,.string ⟨#[]⟩,.int .i64 0]) 3 40:=⟨Tryz.underlying69,adk,rfl,by omega⟩
set_option maxRecDepth 100000 in
set_option maxHeartbeats 2000000 in
theorem anl (x:iU) (cs:List Value) (F:List Nat) (w:World) (h:rd w x cs F) (hw:(x.wt:Int)≤1048576) :
 Calls Tryz.prog 124 #[.agg cs.toArray] w fun e w'=>∃cs F,e = .returned (.agg cs.toArray)∧Own w' w.heap.size x cs F∧Below w.heap.size w w':=by
 have HW:=Lib.hid hw
 clear hw
 obtain ⟨_,_,_,_,rfl,rfl,⟨rfl,rfl,hkey⟩,_,_,_,_,rfl,rfl,⟨rfl,rfl,kP⟩,⟨rfl,rfl,lD⟩⟩:=h
 replace hkey:=rV (s:=x.key) hkey
 replace kP:=rV (s:=x.value) kP
 replace lD:I64 x.effect:=lD
 simp only [List.cons_append,List.nil_append]
 go_enter Tryz.func124,Tryz.ntmps124
 go_wp2
 refine bodyPost_ret (v:=.agg #[.string x.key,.string x.value,.int .i64 x.effect]) (by simp [results,Tryz.results124,go_sem, *]) rfl ⟨[.string x.key,.string x.value,.int .i64 x.effect],[],rfl,?_,by repeat (first | with_reducible exact aj _ | with_reducible assumption | with_reducible refine ak ?_ _ | with_reducible refine aC ?_ atY _ | with_reducible refine ah ?_ (by assumption))⟩
 refine Own.up (B':=w.heap.size) (fun x:iU=>(x.key,x.value,x.effect)) ?_ (by omega)
 refine Own.cons (c1:=[.string x.key]) (rdStr _ x.key hkey) ?_
 refine Own.cons (c1:=[.string x.value]) (rdStr _ x.value kP) ?_
 exact Own.flat (jL _ x.effect lD)
set_option maxHeartbeats 1000000 in
theorem alo (xs:List iU) (A:Option Addr) (c:Nat) (F:List Nat) (w:World) (h:Sl w xs A c F) (hl:(kL iU.wt xs:Int)≤1048576) :
 Calls Tryz.prog 83 #[.slice A xs.length c] w fun e w'=>∃A c F,e = .returned (.slice A xs.length c)∧Own w' w.heap.size xs [.slice A xs.length c] F∧Below w.heap.size w w':=by
 have hlen:(xs.length:Int)≤1048576:=by have:=gJ iU.wt xs;omega
 have HL:=Lib.hid hl
 clear hl
 have hmk:=run_make_full ae5 (by omega) xs.length (by omega)
 go_enter Tryz.func83,Tryz.ntmps83
 go_wp2_with fail
 go_loopw [4] (fun i wr=>∃(k:Nat) (ds:List Value) (G:List Nat),k≤xs.length∧i = .int .i64 k∧Fill wr w.heap.size 126 (xs.length * 3) ds∧Hid (ds.length = k * 3)∧aY wr (w.heap.size+1) (xs.take k) ds G∧Below w.heap.size w wr) (fun i _=>xs.length - (intOf i).toNat)
 case atStart=>exact ⟨0,[],[],Nat.zero_le _,rfl,Fill.made w _ _ _ auF,by show _ = _;simp,.nil _ _,ak (aj _) _⟩
 case round =>
  obtain ⟨k,ds,G,hk,rfl,hf,hd,hO,hbl⟩:=hrel
  by_cases hlt:k < xs.length
  ·obtain ⟨b,o,ck,Fk,rfl,o9,hbs,hr,hsub,hc⟩:=(h.ext hbl).get hlt
   obtain ⟨hck,rfl,xO,xk,zT⟩:=oK hr
   subst hck
   have q0:wr.cell? ⟨b,o+k * 3,none⟩ = some (.string xs[k].key):=by exact hc 0 _ rfl
   have q1:wr.cell? ⟨b,o+k * 3+1,none⟩ = some (.string xs[k].value):=by rw [Nat.add_assoc];exact hc 1 _ rfl
   have q2:wr.cell? ⟨b,o+k * 3+2,none⟩ = some (.int .i64 xs[k].effect):=by rw [Nat.add_assoc];exact hc 2 _ rfl
   clear hc
   have hwk:=rM (f:=iU.wt) hlt
   have PU:(iU.wt xs[k]:Int)≤1048576:=by have:=HL.out;omega
   clear hwk
   go_wp2_with (go_at_call 124;refine (anl xs[k] _ _ _ hr PU).mono ?_;rintro e w2 ⟨cs2,G2,rfl,hO2,hb2⟩
                have hR2:=hO2.rd
                obtain ⟨hck,hG2,vC,rP,uY⟩:=oK hR2
                subst hck
                have hf2:=hf.keep (hb2.block _ hf.lt)
                obtain ⟨u0,hu0⟩:=hf2.cell (i:=k * 3) (by omega);have aeV:=hf2.frozen (k * 3)
                obtain ⟨u1,hu1⟩:=hf2.cell (i:=k * 3+1) (by omega);have hfz1:=hf2.frozen (k * 3+1)
                obtain ⟨u2,hu2⟩:=hf2.cell (i:=k * 3+2) (by omega);have aix:=hf2.frozen (k * 3+2))
   have hF:=(((hf2.gU (o:=k * 3) auz (by omega) (.string xs[k].key)).gU (o:=k * 3+1) at7 (by omega) (.string xs[k].value)).gU (o:=k * 3+2) at7 (by omega) (.int .i64 xs[k].effect))
   have hO3:=hO.ext hb2
   replace hO3:=hO3.setCell (p:=⟨w.heap.size,k * 3,none⟩) (Nat.lt_succ_self _) (.string xs[k].key)
   replace hO2:=hO2.setCell (p:=⟨w.heap.size,k * 3,none⟩) hf.lt (.string xs[k].key)
   replace hO3:=hO3.setCell (p:=⟨w.heap.size,k * 3+1,none⟩) (Nat.lt_succ_self _) (.string xs[k].value)
   replace hO2:=hO2.setCell (p:=⟨w.heap.size,k * 3+1,none⟩) hf.lt (.string xs[k].value)
   replace hO3:=hO3.setCell (p:=⟨w.heap.size,k * 3+2,none⟩) (Nat.lt_succ_self _) (.int .i64 xs[k].effect)
   replace hO2:=hO2.setCell (p:=⟨w.heap.size,k * 3+2,none⟩) hf.lt (.int .i64 xs[k].effect)
   exact Zacd
  ·exact Zabl
end Go.Proofs.YtogkjlcoadhpgaaGreat
