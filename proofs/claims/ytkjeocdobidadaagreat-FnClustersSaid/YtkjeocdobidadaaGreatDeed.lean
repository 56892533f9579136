/- An operation as data. No condition. -/
import Derived.Test.YtkjeocdobidadaaGreatData
import Derived.Test.YtkjeocdobidadaaGreatWords
import Derived.Maps.AppendAt
import Derived.Lib.Small
import Derived.Lib.Bytealg
namespace Go.Proofs.YtkjeocdobidadaaGreat
open Go.ChangeShapes Go.WideShapes Go.ChangeAt Go.RowKit
set_option linter.unusedVariables false
set_option linter.unusedSimpArgs false
set_option maxHeartbeats 400000
set_option maxRecDepth 100000
structure Deed where
 kind:Int
 name:ByteArray
 man:Manifest
 weights:rZ
instance:Dat Deed:=Dat.iso fun x=>(x.kind,x.name,x.man,x.weights)
theorem rd_Deed {w:World} {x:Deed} {cs:List Value} {F:List Nat} (h:rd w x cs F):∃(Amanpodlabels:Option Addr) (cmanpodlabels:Nat) (Fmanpodlabels:List Nat) (Amanpodneeds:Option Addr) (cmanpodneeds:Nat) (Fmanpodneeds:List Nat) (Amanpodtolerances:Option Addr) (cmanpodtolerances:Nat) (Fmanpodtolerances:List Nat) (Amanhostlabels:Option Addr) (cmanhostlabels:Nat) (Fmanhostlabels:List Nat) (Amanhosttaints:Option Addr) (cmanhosttaints:Nat) (Fmanhosttaints:List Nat),cs = [.int .i64 x.kind,.string x.name,.int .i64 x.man.kind,.string x.man.aS.name,.slice Amanpodlabels x.man.aS.labels.length cmanpodlabels,.int .i64 x.man.aS.cpu,.int .i64 x.man.aS.mem,.int .i64 x.man.aS.rank,.slice Amanpodneeds x.man.aS.needs.length cmanpodneeds,.slice Amanpodtolerances x.man.aS.tolerances.length cmanpodtolerances,.string x.man.host.name,.slice Amanhostlabels x.man.host.labels.length cmanhostlabels,.int .i64 x.man.host.cpu,.int .i64 x.man.host.mem,.int .i64 x.man.host.slots,.slice Amanhosttaints x.man.host.aT.length cmanhosttaints,.int .i64 x.weights.pack,.int .i64 x.weights.spread,.int .i64 x.weights.soft]∧F = Fmanpodlabels++(Fmanpodneeds++(Fmanpodtolerances++(Fmanhostlabels++(Fmanhosttaints))))∧I64 x.kind∧x.name.size≤maxLen∧I64 x.man.kind∧x.man.aS.name.size≤maxLen∧Sl w x.man.aS.labels Amanpodlabels cmanpodlabels Fmanpodlabels∧I64 x.man.aS.cpu∧I64 x.man.aS.mem∧I64 x.man.aS.rank∧Sl w x.man.aS.needs Amanpodneeds cmanpodneeds Fmanpodneeds∧Sl w x.man.aS.tolerances Amanpodtolerances cmanpodtolerances Fmanpodtolerances∧x.man.host.name.size≤maxLen∧Sl w x.man.host.labels Amanhostlabels cmanhostlabels Fmanhostlabels∧I64 x.man.host.cpu∧I64 x.man.host.mem∧I64 x.man.host.slots∧Sl w x.man.host.aT Amanhosttaints cmanhosttaints Fmanhosttaints∧I64 x.weights.pack∧I64 x.weights.spread∧I64 x.weights.soft:=by
 obtain ⟨_,_,_,_,rfl,rfl,⟨rfl,rfl,hkind⟩,_,_,_,_,rfl,rfl,⟨rfl,rfl,hname⟩,_,_,_,_,rfl,rfl,hman,xM⟩:=h;obtain ⟨Amanpodlabels,cmanpodlabels,Fmanpodlabels,Amanpodneeds,cmanpodneeds,Fmanpodneeds,Amanpodtolerances,cmanpodtolerances,Fmanpodtolerances,Amanhostlabels,cmanhostlabels,Fmanhostlabels,Amanhosttaints,cmanhosttaints,Fmanhosttaints,rfl,rfl,hmankind,hmanpodname,hmanpodlabels,hmanpodcpu,hmanpodmem,hmanpodrank,hmanpodneeds,hmanpodtolerances,hmanhostname,hmanhostlabels,hmanhostcpu,hmanhostmem,hmanhostslots,hmanhosttaints⟩:=NS hman;obtain ⟨rfl,rfl,aV,aP,aW⟩:=mg xM;exact ⟨Amanpodlabels,cmanpodlabels,_,Amanpodneeds,cmanpodneeds,_,Amanpodtolerances,cmanpodtolerances,_,Amanhostlabels,cmanhostlabels,_,Amanhosttaints,cmanhosttaints,_,rfl,S',hkind,hname,hmankind,hmanpodname,hmanpodlabels,hmanpodcpu,hmanpodmem,hmanpodrank,hmanpodneeds,hmanpodtolerances,hmanhostname,hmanhostlabels,hmanhostcpu,hmanhostmem,hmanhostslots,hmanhosttaints,aV,aP,aW⟩
theorem mG {w w':World} {B e size n:Nat} {v:Value} {xs:List Value} (h:w.ownsRow B e size v n xs) (hb:Below w.heap.size w w'):w'.ownsRow B e size v n xs :=
 h.kept (row:=none) ⟨hb.os,hb.tape,hb.output,hb.size,fun k hk _=>hb.block k hk⟩ (by cases hv:v.ownBlock <;> simp)
theorem vP {w:World} {B B' e size n:Nat} {v:Value} {xs:List Value} (h:w.ownsRow B e size v n xs) (hB:B'≤B):w.ownsRow B' e size v n xs:=by
 refine ⟨h.1,?_⟩;rcases h.2 with h | ⟨g,cap,cur,h1,h2,h3⟩
 ·exact .inl h
 ·exact .inr ⟨g,cap,cur,h1,Nat.le_trans hB h2,h3⟩
def DK (u v:Value):Prop:=u.ownBlock = none∨u.ownBlock≠v.ownBlock
theorem DK.symm {u v:Value} (h:DK u v):DK v u:=by
 unfold DK at *;rcases h with h | h
 ·cases hv:v.ownBlock with
  | none=>exact .inl rfl
  | some k=>right;rw [h];simp
 ·exact .inr (Ne.symm h)
theorem DK.grow {u u' v:Value} {w:World} {B e size n:Nat} {xs:List Value} (h:DK u v) (hv:w.ownsRow B e size v n xs) {N:Nat} (hN:w.heap.size≤N) (hat:u'.ownBlock = u.ownBlock∨u'.ownBlock = some N):DK u' v:=by
 rcases hat with hat | hat
 ·unfold DK at *;rw [hat];exact h
 ·right;rw [hat];intro e;have:=hv.lt N e.symm;omega
section
variable {P:Program} {t e:TypeId} {z:Value} {size bytes:Nat}
theorem uf (hE:DL P t e z size bytes) {ops:Array Oper} {rest:List Oper} {o:Oper} {a:Act} {Q:Exit→Act→World→Prop} (hgd:o.guard = none) (s x:Operand)
 (ho:o.op = .call { callee:=.builtin .append,args:=#[s,x],argTypes:=#[t,t] })
 (w:World) (base:Nat) (v:Value) (n:Nat) (xs:List Value) (hown:w.ownsRow base e size v n xs) (hs:a.eval s = v)
 (cs:List Value) (hx:a.eval x = .slice (some ⟨w.heap.size,0,none⟩) 1 1) (hl:cs.length = size) (h1:∀u∈cs,u.oneCell' = true)
 (hn:n≤2097152) (hby:bytes≤4096) (hbase:base≤w.heap.size)
 (h:∀v' w',w'.ownsRow base e size v' (n+1) (xs++cs)→w.grownBy w' v.ownBlock→w.heap.size+1≤w'.heap.size→(v'.ownBlock = v.ownBlock∨v'.ownBlock = some (w.heap.size+1))→wpList P ops Q rest (a.put o.dst v') w'):wpList P ops Q (o :: rest) a (w.alloc (.cells cs.toArray e)):=by
 obtain ⟨ht,hi0,hzs,hsz⟩:=hE;obtain ⟨i,hi,hz,hsize,hb⟩:=info_parts hi0;have hbb:(n+1) * bytes≤2097153 * 4096:=Nat.mul_le_mul O' hby;refine wpList_append_own_at (w.alloc (.cells cs.toArray e)) hgd s x t ho base e i z size bytes ht hi hz hsize hb hzs hsz v n xs hs (hown.alloc _) ⟨w.heap.size,0,none⟩ 1 1 cs hx O' ?_ h1 at6 O' (by simp;omega) ?_
 ·exact Zacn
 ·intro v' w' hown' hg _ hat;refine h v' w' hown' ⟨hg.os,hg.tape,hg.output,Nat.le_trans S' hg.size,fun k hk hne=>?_⟩ avU (by simpa using hat);rw [hg.block k (by simp;omega) hne];exact Below.heap_alloc _ _ _ hk
end
theorem Sl.oJ {α:Type} [Dat α] {w:World} {B:Nat} {e:TypeId} {v:Value} {xs:List α} {ds:List Value} {F:List Nat} (h0:w.ownsRow B e (Dat.size α) v xs.length ds) (h:jo w xs ds F):∃A c G,v = .slice A xs.length c∧Sl w xs A c G:=by
 rcases h0 with ⟨hl,⟨rfl,hn⟩ | ⟨g,cap,cur,rfl,hb,hh,hle,hm,hcs,ht⟩⟩
 ·obtain rfl:xs = []:=List.eq_nil_of_length_eq_zero hn;exact ⟨none,0,[],rfl,Sl.nil w none 0 (Nat.zero_le _)⟩
 ·have hg:g < w.heap.size:=by
   exact Zafk
  refine ⟨_,cap,g :: F,rfl,⟨_,cap,F,ds,rfl,hle,hm,h,.inr ⟨g,0,rfl,rfl,hg,fun j u hu=>?_⟩⟩⟩;exact Zach
theorem Fv (w:World):∀(xs:List Int),(∀x∈xs,I64 x)→jo w xs (xs.map fun n=>.int .i64 n) []
 | [],_=>⟨rfl,rfl⟩
 | x :: xs,h=>⟨[.int .i64 x],_,[],[],rfl,rfl,jL w x (h x (List.mem_cons_self ..)),Fv w xs fun y hy=>h y (List.mem_cons_of_mem _ hy)⟩
theorem atB:(Tryz.prog.info? 3).map (fun i=>(i.zero,i.size,i.bytes)) = some (some (.int .i64 0),1,8):=by kernel_rfl
theorem adG:DL Tryz.prog 64 3 (.int .i64 0) 1 8:=⟨Tryz.underlying64,atB,rfl,O'⟩
theorem EI (x y:Int) (w:World):Calls Tryz.prog 94 #[.int .i64 x,.int .i64 y] w fun e w'=>e = .returned (.int .i64 (Lib.compareInt x y))∧w' = w:=by
 go_enter Tryz.func94,Tryz.ntmps94;go_wp2;all_goals (go_ret;refine ⟨?_,rfl⟩;unfold Lib.compareInt;(repeat' split) <;> first | rfl | (exfalso;omega))
def Qa:List Int→Int
 | []=>0
 | x :: xs=>if x = 0 then Qa xs else x
theorem aqF {xs:List Int} {k:Nat} (h:k < xs.length):Qa (xs.drop k) = if xs[k] = 0 then Qa (xs.drop (k+1)) else xs[k]:=by
 rw [← List.getElem_cons_drop h];rfl
theorem afl (xs:List Int) (A:Option Addr) (n c:Nat) (F:List Nat) (w:World) (h:Sl w xs A c F) (hn:n = xs.length) (hl:(xs.length:Int)≤1048576) :
 Calls Tryz.prog 93 #[.slice A n c] w fun e w'=>e = .returned (.int .i64 (Qa xs))∧w' = w:=by
 subst hn;go_enter Tryz.func93,Tryz.ntmps93;go_wp2_with fail
 go_slots
 go_loop [8] (fun i=>∃k:Nat,k≤xs.length∧i = .int .i64 k∧Hid (Qa xs = Qa (xs.drop k))) (fun i=>xs.length - (intOf i).toNat)
 case atStart=>exact ⟨0,Nat.zero_le _,rfl,rfl⟩
 case round =>
  obtain ⟨k,hk,rfl,HO⟩:=hrel;by_cases hlt:k < xs.length
  ·obtain ⟨b,o,ck,Fk,rfl,o9,hbs,hr,hsub,hc⟩:=h.get hlt;obtain ⟨hck,su,hI⟩:=hr;subst hck su;have q0:w.cell? ⟨b,o+k,none⟩ = some (.int .i64 xs[k]):=(by have:=hc 0 _ rfl;rwa [show o+(k * Dat.size Int+0) = o+k from by show o+(k * 1+0) = _;omega] at this);clear hc;have hd:=aqF hlt;by_cases h0:xs[k] = 0
   ·rw [if_pos h0] at hd;have HN:=I' (HO.out.trans hd);clear hd;have hb0:(xs[k] == 0) = true:=(by simp [h0]);go_wp2;exact ⟨⟨k+1,O',N',HN.out⟩,by simp [intOf];omega⟩
   ·rw [if_neg h0] at hd;have HN:=I' (HO.out.trans hd);clear hd;have hb0:(xs[k] == 0) = false:=(by simp [h0]);exact Zadq
  ·have hkl:k = xs.length:=O';subst hkl;have ho:=HO.out;rw [List.drop_length] at ho;have HN:=I' ho;clear ho;exact Zadq
theorem BU (a b:Int):-1≤Lib.compareInt a b∧Lib.compareInt a b≤1:=by
 unfold Lib.compareInt;repeat' split
 all_goals omega
theorem Sl.Va (W:World) (xs:List Int) (t:TypeId) (h:∀x∈xs,I64 x) (hl:xs.length≤maxLen):Sl (W.alloc (.cells (xs.map fun n=>Value.int .i64 n).toArray t)) xs (some ⟨W.heap.size,0,none⟩) xs.length [W.heap.size] :=
 ⟨_,_,[],xs.map fun n=>.int .i64 n,rfl,Nat.le_refl _,hl,Fv _ xs h,.inr ⟨W.heap.size,0,rfl,rfl,S',fun j u hu=>by
   rw [Nat.zero_add,cell_of_row _ _ _ _ _ _ (heap_alloc_new W _)]
   simpa using hu⟩⟩
theorem Sl.ape {α:Type} [Dat α] {w:World} {xs:List α} {A:Option Addr} {c:Nat} {F:List Nat} (h:Sl w xs A c F):Sl w.drew xs A c F:=h.frame (fun _ _=>rfl) (Nat.le_refl _)
theorem I64.small {n:Int} (h:-1≤n∧n≤1):I64 n:=by unfold I64;omega
theorem Sl.ints3 (W:World) (a b c:Int) (t:TypeId) (ha:I64 a) (hb:I64 b) (hc:I64 c) (N:Nat) (hN:W.heap.size = N):Sl (W.alloc (.cells #[.int .i64 a,.int .i64 b,.int .i64 c] t)) [a,b,c] (some ⟨N,0,none⟩) 3 [N]:=by
 subst hN;exact Sl.Va W [a,b,c] t (by intro x hx;simp only [List.mem_cons,List.not_mem_nil,or_false] at hx;rcases hx with rfl | rfl | rfl <;> assumption) (by unfold maxLen;simp)
theorem abm (a b:ByteArray) (w:World):Calls Tryz.prog 214 #[.string a,.string b] w fun e w'=>e = .returned (.int .i64 (Lib.compareBytes a.data.toList b.data.toList))∧w' = w:=by
 go_enter Tryz.func214,Tryz.ntmps214;go_wp2;rw [run_callFunc_extern Tryz.func220 U' U' U' (e:=Extern.BytealgCompare.compare) U',Lib.run_compareString];simp only [Result.andThen];rw [Oper.upon_value];go_wp2;go_ret
 exact ⟨rfl,rfl⟩
theorem N8 (a b:ByteArray) (w:World):Calls Tryz.prog 198 #[.string a,.string b] w fun e w'=>e = .returned (.int .i64 (Lib.compareBytes a.data.toList b.data.toList))∧w' = w:=by
 go_enter Tryz.func198,Tryz.ntmps198;go_wp2_with fail
 refine (abm a b _).mono ?_;rintro e w' ⟨rfl,rfl⟩;go_wp2;go_ret
 exact ⟨rfl,rfl⟩
def kL {α:Type} (f:α→Nat) (xs:List α):Nat:=xs.length+(xs.map f).sum
abbrev wtS (xs:List ByteArray):Nat:=kL ByteArray.size xs
theorem Bq {α:Type} {f:α→Nat} {xs:List α} {x:α} (h:x∈xs):f x≤kL f xs:=by
 unfold kL;induction xs with
 | nil=>cases h
 | cons y ys ih =>
   rcases List.mem_cons.1 h with rfl | h
   ·simp;omega
   ·have:=ih h;simp at this ⊢;omega
theorem rM {α:Type} {f:α→Nat} {xs:List α} {k:Nat} (h:k < xs.length):f xs[k]≤kL f xs:=Bq (List.getElem_mem h)
theorem gJ {α:Type} (f:α→Nat) (xs:List α):xs.length≤kL f xs:=by unfold kL;omega
def Label.wt (x:Label):Nat:=x.key.size+x.value.size
def Need.wt (x:Need):Nat:=x.key.size+wtS x.values
def iU.wt (x:iU):Nat:=x.key.size+x.value.size
def bH.wt (x:bH):Nat:=x.key.size+x.value.size
def nI.wt (x:nI):Nat:=x.name.size+kL Label.wt x.labels+kL Need.wt x.needs+kL bH.wt x.tolerances
def Host.wt (x:Host):Nat:=x.name.size+kL Label.wt x.labels+kL iU.wt x.aT
def Placed.wt (x:Placed):Nat:=x.aS.wt+x.on.size
def aU.wt (x:aU):Nat:=kL Host.wt x.hosts+kL Placed.wt x.au
def Manifest.wt (x:Manifest):Nat:=x.aS.wt+x.host.wt
def tV.wt (x:tV):Nat:=x.path.size
def Opens (P:Program) (t:TypeId) (α:Type) [Dat α]:Prop:=∀(H:Type) (enc:TypeId × Value→H) (w:World) (base fuel:Nat) (spare:Nat→Bool) (held:Bool) (cs:List Value) (d:DataW H × List MemPlace),
 DataW.trod enc P w base spare held fuel t cs = some d→∃(x:α) (F:List Nat),rd w x cs F
theorem yH {P:Program} {t e:TypeId} {α:Type} [Dat α] (ht:P.underlying t = some (.slice e)) (hC:P.cellsOf e = Dat.size α) (h:Opens P e α):Opens P t (List α):=by
 intro H enc w base fuel spare held cs d hd;rcases Deep.open_slice ht hd with ⟨rfl,_⟩ | ⟨a,len,cap,m,n,D,Pl,rfl,hb,hl,hm,hmm,hx,hi⟩
 ·exact ⟨[],[],Sl.nil w none 0 (Nat.zero_le _)⟩
 ·rcases Nat.eq_zero_or_pos len with rfl | hpos
  ·exact ⟨[],[],Sl.nil w (some a) cap hm⟩
  ·have hlm:len≤m:=(by rw [hmm];split <;> omega);have hpos':=Dat.pos (α:=α);have hsp:a.spot = none∧a.block < w.heap.size:=by
    obtain ⟨cs',hc,_⟩:=hi 0 O';obtain ⟨_,hcl,hat⟩:=World.cells?_some hc;have h0:=hat (i:=0) O';simp only [Nat.zero_mul] at h0;have e0:(a.add 0).add 0 = a:=(by simp [Addr.add]);rw [e0] at h0;rw [List.getElem?_eq_getElem O'] at h0;refine ⟨?_,World.block_lt_of_cell? w a h0⟩;unfold World.cell? at h0;split at h0
    ·split at h0
     ·cases h0
     ·rename_i hs;simpa using hs
    ·cases h0
   obtain ⟨b,o,sp⟩:=a;obtain ⟨rfl,hblt⟩:=hsp;have step:∀k,k≤len→∃(xs:List α) (ds:List Value) (G:List Nat),xs.length = k∧jo w xs ds G∧∀j u,ds[j]? = some u→w.cell? ⟨b,o+j,none⟩ = some u:=by
    intro k;induction k with
    | zero=>exact fun _=>⟨[],[],[],rfl,⟨rfl,rfl⟩,fun j u hu=>by simp at hu⟩
    | succ k ih =>
      intro hk;obtain ⟨xs,ds,G,hxl,hr,hc⟩:=ih O';obtain ⟨cs',hcs,htr⟩:=hi k O';obtain ⟨x,F,hxr⟩:=h H enc w base n spare held cs' _ htr;obtain ⟨_,hcl,hat⟩:=World.cells?_some hcs;refine ⟨xs++[x],ds++cs',G++F,by simp [hxl],hr.append (.single hxr),fun j u hu=>?_⟩;have hdl:=hr.len;rw [hxl] at hdl;by_cases hj:j < ds.length
      ·exact hc j u (by rwa [List.getElem?_append_left hj] at hu)
      ·rw [List.getElem?_append_right O'] at hu;have hj':=(List.getElem?_eq_some_iff.1 hu).1;have h1:=hat (i:=j - ds.length) O';rw [hu,hC] at h1;have e1:((⟨b,o,none⟩:Addr).add (k * Dat.size α)).add (j - ds.length) = ⟨b,o+j,none⟩:=by
        rw [Deep.add_add];unfold Addr.add;split
        ·simp <;> omega
        ·simp <;> omega
       rw [e1] at h1;exact h1
   obtain ⟨xs,ds,G,hxl,hr,hc⟩:=step len (Nat.le_refl _);subst hxl;exact ⟨xs,b :: G,_,cap,G,ds,rfl,hl,hm,hr,.inr ⟨b,o,rfl,rfl,hblt,hc⟩⟩
section
variable {α β:Type} [Dat α] [Dat β] {w:World} {B B2:Nat} {x:α} {y:β} {c1 c2:List Value} {F1 F2:List Nat}
theorem Own.pair (h1:Own w B x c1 F1) (h2:Own w B2 y c2 F2) (hB:B≤B2) (hF:∀b∈F1,b < B2):Own w B (x,y) (c1++c2) (F1++F2):=by
 refine ⟨⟨c1,c2,F1,F2,rfl,rfl,h1.rd,h2.rd⟩,?_,?_,?_⟩
 ·rw [List.nodup_append];exact ⟨h1.nodup,h2.nodup,fun a ha b hb=>by have:=hF a ha;have:=h2.base b hb;omega⟩
 ·intro b hb;rcases List.mem_append.1 hb with hb | hb
  ·exact h1.base b hb
  ·exact Nat.le_trans hB (h2.base b hb)
 ·intro b hb;rcases List.mem_append.1 hb with hb | hb
  ·exact h1.plain b hb
  ·exact h2.plain b hb
theorem Own.up {γ:Type} {z:γ} {cs:List Value} {F:List Nat} {B':Nat} (g:γ→β) (h:Own w B' (g z) cs F) (hB:B≤B'):@Own γ (Dat.iso g) w B z cs F :=
 @Own.mk γ (Dat.iso g) w B z cs F h.rd h.nodup (fun b hb=>Nat.le_trans hB (h.base b hb)) h.plain
theorem Own.cons (h1:Go.Proofs.YtkjeocdobidadaaGreat.Dat.rd w x c1 []) (h2:Own w B y c2 F2):Own w B (x,y) (c1++c2) F2:=by
 have:=(Own.flat (B:=B) h1).pair h2 (Nat.le_refl _) (fun b hb=>by cases hb);simpa using this
end
theorem ao2:(Tryz.prog.info? 9).map (fun i=>(i.zero,i.size,i.bytes)) = some (some (.string ⟨#[]⟩),1,16):=by kernel_rfl
theorem qw:DL Tryz.prog 49 9 (.string ⟨#[]⟩) 1 16:=⟨Tryz.underlying49,ao2,rfl,O'⟩
end Go.Proofs.YtkjeocdobidadaaGreat
