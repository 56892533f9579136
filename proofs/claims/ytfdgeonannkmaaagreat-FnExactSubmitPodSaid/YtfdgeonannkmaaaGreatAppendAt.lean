/- append of one element, and where the new row lies; several rows of the call's own side by side; a row read as a slice. No condition. -/
import Derived.Test.YtfdgeonannkmaaaGreatKit
import Derived.Maps.AppendAt
import Derived.Test.YtfdgeonannkmaaaGreatData
import Derived.Lib.Small
namespace Go.Proofs.YtfdgeonannkmaaaGreat
open Go.ChangeShapes Go.WideShapes Go.ChangeAt Go.RowKit
set_option linter.unusedVariables false
set_option linter.unusedSimpArgs false
theorem mG {w w':World} {B e size n:Nat} {v:Value} {xs:List Value} (h:w.ownsRow B e size v n xs) (hb:Below w.heap.size w w'):w'.ownsRow B e size v n xs :=
 h.kept (row:=none) ⟨hb.os,hb.tape,hb.output,hb.size,fun k hk _=>hb.block k hk⟩ (by cases hv:v.ownBlock <;> simp)
theorem vP {w:World} {B B' e size n:Nat} {v:Value} {xs:List Value} (h:w.ownsRow B e size v n xs) (hB:B'≤B):w.ownsRow B' e size v n xs:=by
 refine ⟨h.1,?_⟩
 rcases h.2 with h | ⟨g,cap,cur,h1,h2,h3⟩
 ·exact .inl h
 ·exact .inr ⟨g,cap,cur,h1,Nat.le_trans hB h2,h3⟩
def DK (u v:Value):Prop:=u.ownBlock = none∨u.ownBlock≠v.ownBlock
theorem DK.symm {u v:Value} (h:DK u v):DK v u:=by
 unfold DK at *
 rcases h with h | h
 ·cases hv:v.ownBlock with
  | none=>exact .inl rfl
  | some k=>right;rw [h];simp
 ·exact .inr (Ne.symm h)
theorem DK.grow {u u' v:Value} {w:World} {B e size n:Nat} {xs:List Value} (h:DK u v) (hv:w.ownsRow B e size v n xs) {N:Nat} (hN:w.heap.size≤N) (hat:u'.ownBlock = u.ownBlock∨u'.ownBlock = some N):DK u' v:=by
 rcases hat with hat | hat
 ·unfold DK at *;rw [hat];exact h
 ·right
  rw [hat]
  intro e
  have:=hv.lt N e.symm
  omega
section
variable {P:Program} {t e:TypeId} {z:Value} {size bytes:Nat}
theorem uf (hE:DL P t e z size bytes) {ops:Array Oper} {rest:List Oper} {o:Oper} {a:Act} {Q:Exit→Act→World→Prop} (hgd:o.guard = none) (s x:Operand)
 (ho:o.op = .call { callee:=.builtin .append,args:=#[s,x],argTypes:=#[t,t] })
 (w:World) (base:Nat) (v:Value) (n:Nat) (xs:List Value) (hown:w.ownsRow base e size v n xs) (hs:a.eval s = v)
 (cs:List Value) (hx:a.eval x = .slice (some ⟨w.heap.size,0,none⟩) 1 1) (hl:cs.length = size) (h1:∀u∈cs,u.oneCell' = true)
 (hn:n≤2097152) (hby:bytes≤4096) (hbase:base≤w.heap.size)
 (h:∀v' w',w'.ownsRow base e size v' (n+1) (xs++cs)→w.grownBy w' v.ownBlock→w.heap.size+1≤w'.heap.size→(v'.ownBlock = v.ownBlock∨v'.ownBlock = some (w.heap.size+1))→wpList P ops Q rest (a.put o.dst v') w'):wpList P ops Q (o :: rest) a (w.alloc (.cells cs.toArray e)):=by
 obtain ⟨ht,hi0,hzs,hsz⟩:=hE
 obtain ⟨i,hi,hz,hsize,hb⟩:=info_parts hi0
 have hbb:(n+1) * bytes≤2097153 * 4096:=Nat.mul_le_mul (by omega) hby
 refine wpList_append_own_at (w.alloc (.cells cs.toArray e)) hgd s x t ho base e i z size bytes ht hi hz hsize hb hzs hsz v n xs hs (hown.alloc _) ⟨w.heap.size,0,none⟩ 1 1 cs hx (by omega) ?_ h1 at6 (by omega) (by simp;omega) ?_
 ·exact Zab6
 ·intro v' w' hown' hg _ hat
  refine h v' w' hown' ⟨hg.os,hg.tape,hg.output,Nat.le_trans (by simp) hg.size,fun k hk hne=>?_⟩ avU (by simpa using hat)
  rw [hg.block k (by simp;omega) hne]
  exact Below.heap_alloc _ _ _ hk
end
theorem Sl.oJ {α:Type} [Dat α] {w:World} {B:Nat} {e:TypeId} {v:Value} {xs:List α} {ds:List Value} {F:List Nat} (h0:w.ownsRow B e (Dat.size α) v xs.length ds) (h:jo w xs ds F):∃A c G,v = .slice A xs.length c∧Sl w xs A c G:=by
 rcases h0 with ⟨hl,⟨rfl,hn⟩ | ⟨g,cap,cur,rfl,hb,hh,hle,hm,hcs,ht⟩⟩
 ·obtain rfl:xs = []:=List.eq_nil_of_length_eq_zero hn
  exact ⟨none,0,[],rfl,Sl.nil w none 0 (Nat.zero_le _)⟩
 ·have hg:g < w.heap.size:=by
   exact Zacx
  refine ⟨_,cap,g :: F,rfl,⟨_,cap,F,ds,rfl,hle,hm,h,.inr ⟨g,0,rfl,rfl,hg,fun j u hu=>?_⟩⟩⟩
  rw [Nat.zero_add,cell_of_row w g j cur e (0,0) hh]
  exact Zacd
theorem Fv (w:World):∀(xs:List Int),(∀x∈xs,I64 x)→jo w xs (xs.map fun n=>.int .i64 n) []
 | [],_=>⟨rfl,rfl⟩
 | x :: xs,h=>⟨[.int .i64 x],_,[],[],rfl,rfl,jL w x (h x (List.mem_cons_self ..)),Fv w xs fun y hy=>h y (List.mem_cons_of_mem _ hy)⟩
theorem atB:(Tryz.prog.info? 3).map (fun i=>(i.zero,i.size,i.bytes)) = some (some (.int .i64 0),1,8):=by kernel_rfl
theorem adG:DL Tryz.prog 197 3 (.int .i64 0) 1 8:=⟨Tryz.underlying197,atB,rfl,by omega⟩
end Go.Proofs.YtfdgeonannkmaaaGreat
namespace Go.Proofs.YtfdgeonannkmaaaGreat
open Go.ChangeShapes Go.WideShapes Go.ChangeAt Go.RowKit
set_option linter.unusedVariables false
set_option linter.unusedSimpArgs false
theorem EI (x y:Int) (w:World):Calls Tryz.prog 192 #[.int .i64 x,.int .i64 y] w fun e w'=>e = .returned (.int .i64 (Lib.compareInt x y))∧w' = w:=by
 go_enter Tryz.func192,Tryz.ntmps192
 go_wp2
 all_goals (go_ret;refine ⟨?_,rfl⟩;unfold Lib.compareInt;(repeat' split) <;> first | rfl | (exfalso;omega))
def Qa:List Int→Int
 | []=>0
 | x :: xs=>if x = 0 then Qa xs else x
theorem aqF {xs:List Int} {k:Nat} (h:k < xs.length):Qa (xs.drop k) = if xs[k] = 0 then Qa (xs.drop (k+1)) else xs[k]:=by
 rw [← List.getElem_cons_drop h];rfl
set_option maxRecDepth 100000 in
set_option maxHeartbeats 400000 in
theorem afl (xs:List Int) (A:Option Addr) (n c:Nat) (F:List Nat) (w:World) (h:Sl w xs A c F) (hn:n = xs.length) (hl:(xs.length:Int)≤1048576) :
 Calls Tryz.prog 191 #[.slice A n c] w fun e w'=>e = .returned (.int .i64 (Qa xs))∧w' = w:=by
 subst hn
 go_enter Tryz.func191,Tryz.ntmps191
 go_wp2_with fail
 go_slots
 go_loop [8] (fun i=>∃k:Nat,k≤xs.length∧i = .int .i64 k∧Hid (Qa xs = Qa (xs.drop k))) (fun i=>xs.length - (intOf i).toNat)
 case atStart=>exact ⟨0,Nat.zero_le _,rfl,rfl⟩
 case round =>
  obtain ⟨k,hk,rfl,HO⟩:=hrel
  by_cases hlt:k < xs.length
  ·obtain ⟨b,o,ck,Fk,rfl,o9,hbs,hr,hsub,hc⟩:=h.get hlt
   obtain ⟨hck,su,hI⟩:=hr
   subst hck su
   have q0:w.cell? ⟨b,o+k,none⟩ = some (.int .i64 xs[k]):=by have:=hc 0 _ rfl;rwa [show o+(k * Dat.size Int+0) = o+k from by show o+(k * 1+0) = _;omega] at this
   clear hc
   have hd:=aqF hlt
   by_cases h0:xs[k] = 0
   ·rw [if_pos h0] at hd
    have HN:=Lib.hid (HO.out.trans hd)
    clear hd
    have hb0:(xs[k] == 0) = true:=by simp [h0]
    go_wp2
    exact ⟨⟨k+1,by omega,by go_num,HN.out⟩,by simp [intOf];omega⟩
   ·rw [if_neg h0] at hd
    have HN:=Lib.hid (HO.out.trans hd)
    clear hd
    have hb0:(xs[k] == 0) = false:=by simp [h0]
    exact Zac9
  ·have hkl:k = xs.length:=by omega
   subst hkl
   have ho:=HO.out
   rw [List.drop_length] at ho
   have HN:=Lib.hid ho
   clear ho
   exact Zac9
theorem BU (a b:Int):-1≤Lib.compareInt a b∧Lib.compareInt a b≤1:=by
 unfold Lib.compareInt
 repeat' split
 all_goals omega
theorem Sl.Va (W:World) (xs:List Int) (t:TypeId) (h:∀x∈xs,I64 x) (hl:xs.length≤maxLen):Sl (W.alloc (.cells (xs.map fun n=>Value.int .i64 n).toArray t)) xs (some ⟨W.heap.size,0,none⟩) xs.length [W.heap.size] :=
 ⟨_,_,[],xs.map fun n=>.int .i64 n,rfl,Nat.le_refl _,hl,Fv _ xs h,.inr ⟨W.heap.size,0,rfl,rfl,by simp,fun j u hu=>by
   rw [Nat.zero_add,cell_of_row _ _ _ _ _ _ (heap_alloc_new W _)]
   simpa using hu⟩⟩
theorem Sl.ape {α:Type} [Dat α] {w:World} {xs:List α} {A:Option Addr} {c:Nat} {F:List Nat} (h:Sl w xs A c F):Sl w.drew xs A c F:=h.frame (fun _ _=>rfl) (Nat.le_refl _)
theorem I64.small {n:Int} (h:-1≤n∧n≤1):I64 n:=by unfold I64;omega
theorem Sl.ints3 (W:World) (a b c:Int) (t:TypeId) (ha:I64 a) (hb:I64 b) (hc:I64 c) (N:Nat) (hN:W.heap.size = N):Sl (W.alloc (.cells #[.int .i64 a,.int .i64 b,.int .i64 c] t)) [a,b,c] (some ⟨N,0,none⟩) 3 [N]:=by
 subst hN
 exact Sl.Va W [a,b,c] t (by intro x hx;simp only [List.mem_cons,List.not_mem_nil,or_false] at hx;rcases hx with rfl | rfl | rfl <;> assumption) (by unfold maxLen;simp)
end Go.Proofs.YtfdgeonannkmaaaGreat
namespace Go.Proofs.YtfdgeonannkmaaaGreat
open Go.ChangeShapes Go.WideShapes Go.ChangeAt Go.RowKit
set_option linter.unusedVariables false
set_option linter.unusedSimpArgs false
def Opens (P:Program) (t:TypeId) (α:Type) [Dat α]:Prop:=∀(H:Type) (enc:TypeId × Value→H) (w:World) (base fuel:Nat) (spare:Nat→Bool) (held:Bool) (cs:List Value) (d:DataW H × List MemPlace),
 DataW.trod enc P w base spare held fuel t cs = some d→∃(x:α) (F:List Nat),rd w x cs F
theorem uQ {P:Program} {t:TypeId} (ht:P.underlying t = some (.int .i64)):Opens P t Int:=by
 intro H enc w base fuel spare held cs d h
 obtain ⟨n,rfl,_,hw⟩:=DataW.trod_int ht h
 refine ⟨n,[],rfl,rfl,?_⟩
 have:=hw
 simp [Lit.wf,IntKind.min,IntKind.max,IntKind.signed,IntKind.bits] at this
 exact this
theorem agT {P:Program} {t:TypeId} (ht:P.underlying t = some .bool):Opens P t Bool:=by
 intro H enc w base fuel spare held cs d h
 obtain ⟨n,rfl,_⟩:=DataW.trod_bool ht h
 exact ⟨n,[],rfl,rfl⟩
theorem uS {P:Program} {t:TypeId} (ht:P.underlying t = some .string):Opens P t ByteArray:=by
 intro H enc w base fuel spare held cs d h
 obtain ⟨n,rfl,_,hs⟩:=DataW.trod_string ht h
 exact ⟨n,[],rfl,rfl,hs⟩
def FO (P:Program) (fs:List Field) (off:Nat) (β:Type) [Dat β]:Prop:=∀(H:Type) (enc:TypeId × Value→H) (w:World) (base n:Nat) (spare:Nat→Bool) (held:Bool) (cs:List Value) (xs:List (DataW H × List MemPlace)),
 cs.length = off+Dat.size β→xs.length = fs.length→(∀(i:Nat) (f:Field),fs[i]? = some f→DataW.trod enc P w base spare held n f.type ((cs.drop f.offset).take (P.cellsOf f.type)) = xs[i]?)→∃(x:β) (F:List Nat),rd w x (cs.drop off) F
theorem Qy {P:Program} {f:Field} {off:Nat} {β:Type} [Dat β] (ho:f.offset = off) (hc:P.cellsOf f.type = Dat.size β) (h:Opens P f.type β):FO P [f] off β:=by
 intro H enc w base n spare held cs xs hl hx hf
 have h0:=hf 0 f rfl
 have hlt:0 < xs.length:=by rw [hx];simp
 rw [List.getElem?_eq_getElem hlt,ho,hc,List.take_of_length_le (by simp;omega)] at h0
 exact h H enc w base n spare held _ _ h0
theorem sF {P:Program} {f:Field} {fs:List Field} {off:Nat} {α β:Type} [Dat α] [Dat β] (ho:f.offset = off) (hc:P.cellsOf f.type = Dat.size α) (h:Opens P f.type α) (hr:FO P fs (off+Dat.size α) β):FO P (f :: fs) off (α × β):=by
 intro H enc w base n spare held cs xs hl hx hf
 have hl':cs.length = off+(Dat.size α+Dat.size β):=hl
 match xs,hx with
 | y :: ys,hx =>
   have h0:=hf 0 f rfl
   simp only [List.getElem?_cons_zero] at h0
   rw [ho,hc] at h0
   obtain ⟨x1,F1,h1⟩:=h H enc w base n spare held _ _ h0
   obtain ⟨x2,F2,h2⟩:=hr H enc w base n spare held cs ys (by omega) (by simpa using hx) (fun i f' hi=>by
    have:=hf (i+1) f' avv
    simpa using this)
   refine ⟨(x1,x2),F1++F2,_,_,F1,F2,?_,rfl,h1,h2⟩
   conv=>lhs;rw [← List.take_append_drop (Dat.size α) (cs.drop off)]
   rw [List.drop_drop]
theorem xU {P:Program} {t:TypeId} {fs:List Field} {β:Type} [Dat β] (ht:P.underlying t = some (.struct fs.toArray)) (hC:P.cellsOf t = Dat.size β) (hf:FO P fs 0 β):Opens P t β:=by
 intro H enc w base fuel spare held cs d h
 obtain ⟨xs,n,_,_,hl,hx,hg⟩:=DataW.trod_struct ht h
 have:=hf H enc w base n spare held cs xs (by omega) (by simpa using hx) (fun i f hi=>hg i f avv)
 simpa using this
theorem ET {P:Program} {t:TypeId} {α β:Type} [Dat β] (f:α→β) (g:β→α) (hfg:∀b,f (g b) = b) (h:Opens P t β):@Opens P t α (Dat.iso f):=by
 intro H enc w base fuel spare held cs d hd
 obtain ⟨x,F,hx⟩:=h H enc w base fuel spare held cs d hd
 exact ⟨g x,F,by show rd w (f (g x)) cs F;rw [hfg];exact hx⟩
theorem yH {P:Program} {t e:TypeId} {α:Type} [Dat α] (ht:P.underlying t = some (.slice e)) (hC:P.cellsOf e = Dat.size α) (h:Opens P e α):Opens P t (List α):=by
 intro H enc w base fuel spare held cs d hd
 rcases Deep.open_slice ht hd with ⟨rfl,_⟩ | ⟨a,len,cap,m,n,D,Pl,rfl,hb,hl,hm,hmm,hx,hi⟩
 ·exact ⟨[],[],Sl.nil w none 0 (Nat.zero_le _)⟩
 ·rcases Nat.eq_zero_or_pos len with rfl | hpos
  ·exact ⟨[],[],Sl.nil w (some a) cap hm⟩
  ·have hlm:len≤m:=by rw [hmm];split <;> omega
   have hpos':=Dat.pos (α:=α)
   have hsp:a.spot = none∧a.block < w.heap.size:=by
    obtain ⟨cs',hc,_⟩:=hi 0 (by omega)
    obtain ⟨_,hcl,hat⟩:=World.cells?_some hc
    have h0:=hat (i:=0) (by omega)
    simp only [Nat.zero_mul] at h0
    have e0:(a.add 0).add 0 = a:=by simp [Addr.add]
    rw [e0] at h0
    rw [List.getElem?_eq_getElem (by omega)] at h0
    refine ⟨?_,World.block_lt_of_cell? w a h0⟩
    unfold World.cell? at h0
    split at h0
    ·split at h0
     ·cases h0
     ·rename_i hs;simpa using hs
    ·cases h0
   obtain ⟨b,o,sp⟩:=a
   obtain ⟨rfl,hblt⟩:=hsp
   have step:∀k,k≤len→∃(xs:List α) (ds:List Value) (G:List Nat),xs.length = k∧jo w xs ds G∧∀j u,ds[j]? = some u→w.cell? ⟨b,o+j,none⟩ = some u:=by
    intro k
    induction k with
    | zero=>exact fun _=>⟨[],[],[],rfl,⟨rfl,rfl⟩,fun j u hu=>by simp at hu⟩
    | succ k ih =>
      intro hk
      obtain ⟨xs,ds,G,hxl,hr,hc⟩:=ih (by omega)
      obtain ⟨cs',hcs,htr⟩:=hi k (by omega)
      obtain ⟨x,F,hxr⟩:=h H enc w base n spare held cs' _ htr
      obtain ⟨_,hcl,hat⟩:=World.cells?_some hcs
      refine ⟨xs++[x],ds++cs',G++F,by simp [hxl],hr.append (.single hxr),fun j u hu=>?_⟩
      have hdl:=hr.len
      rw [hxl] at hdl
      by_cases hj:j < ds.length
      ·exact hc j u (by rwa [List.getElem?_append_left hj] at hu)
      ·rw [List.getElem?_append_right (by omega)] at hu
       have hj':=(List.getElem?_eq_some_iff.1 hu).1
       have h1:=hat (i:=j - ds.length) (by omega)
       rw [hu,hC] at h1
       have e1:((⟨b,o,none⟩:Addr).add (k * Dat.size α)).add (j - ds.length) = ⟨b,o+j,none⟩:=by
        rw [Deep.add_add]
        unfold Addr.add
        split
        ·simp <;> omega
        ·simp <;> omega
       rw [e1] at h1
       exact h1
   obtain ⟨xs,ds,G,hxl,hr,hc⟩:=step len (Nat.le_refl _)
   subst hxl
   exact ⟨xs,b :: G,_,cap,G,ds,rfl,hl,hm,hr,.inr ⟨b,o,rfl,rfl,hblt,hc⟩⟩
end Go.Proofs.YtfdgeonannkmaaaGreat
namespace Go.Proofs.YtfdgeonannkmaaaGreat
open Go.ChangeShapes Go.WideShapes Go.ChangeAt Go.RowKit
set_option linter.unusedVariables false
set_option linter.unusedSimpArgs false
theorem ZT:Opens Tryz.prog 119 (List ByteArray):=yH Tryz.underlying119 (by kernel_rfl) (uS Tryz.underlying9)
theorem amz:Opens Tryz.prog 117 Label:=ET (fun x:Label=>(x.key,x.value)) (fun p=>⟨p.1,p.2⟩) (fun _=>rfl) (xU Tryz.underlying117 (by kernel_rfl) (sF rfl (by kernel_rfl) (uS Tryz.underlying9) (Qy rfl (by kernel_rfl) (uS Tryz.underlying9))))
theorem VA:Opens Tryz.prog 28 (List Label):=yH Tryz.underlying28 (by kernel_rfl) amz
theorem aox:Opens Tryz.prog 121 Need:=ET (fun x:Need=>(x.key,x.op,x.values)) (fun p=>⟨p.1,p.2.1,p.2.2⟩) (fun _=>rfl) (xU Tryz.underlying121 (by kernel_rfl) (sF rfl (by kernel_rfl) (uS Tryz.underlying9) (sF rfl (by kernel_rfl) (uQ Tryz.underlying3) (Qy rfl (by kernel_rfl) ZT))))
theorem amA:Opens Tryz.prog 29 (List Need):=yH Tryz.underlying29 (by kernel_rfl) aox
theorem amB:Opens Tryz.prog 188 iU:=ET (fun x:iU=>(x.key,x.value,x.effect)) (fun p=>⟨p.1,p.2.1,p.2.2⟩) (fun _=>rfl) (xU Tryz.underlying188 (by kernel_rfl) (sF rfl (by kernel_rfl) (uS Tryz.underlying9) (sF rfl (by kernel_rfl) (uS Tryz.underlying9) (Qy rfl (by kernel_rfl) (uQ Tryz.underlying3)))))
theorem akR:Opens Tryz.prog 54 (List iU):=yH Tryz.underlying54 (by kernel_rfl) amB
theorem aeE:Opens Tryz.prog 124 bH:=ET (fun x:bH=>(x.key,x.equal,x.value,x.effect)) (fun p=>⟨p.1,p.2.1,p.2.2.1,p.2.2.2⟩) (fun _=>rfl) (xU Tryz.underlying124 (by kernel_rfl) (sF rfl (by kernel_rfl) (uS Tryz.underlying9) (sF rfl (by kernel_rfl) (agT Tryz.underlying4) (sF rfl (by kernel_rfl) (uS Tryz.underlying9) (Qy rfl (by kernel_rfl) (uQ Tryz.underlying3))))))
theorem adf:Opens Tryz.prog 30 (List bH):=yH Tryz.underlying30 (by kernel_rfl) aeE
theorem Aw:Opens Tryz.prog 32 nI:=ET (fun x:nI=>(x.name,x.labels,x.cpu,x.mem,x.rank,x.needs,x.tolerances)) (fun p=>⟨p.1,p.2.1,p.2.2.1,p.2.2.2.1,p.2.2.2.2.1,p.2.2.2.2.2.1,p.2.2.2.2.2.2⟩) (fun _=>rfl) (xU Tryz.underlying32 (by kernel_rfl) (sF rfl (by kernel_rfl) (uS Tryz.underlying9) (sF rfl (by kernel_rfl) VA (sF rfl (by kernel_rfl) (uQ Tryz.underlying3) (sF rfl (by kernel_rfl) (uQ Tryz.underlying3) (sF rfl (by kernel_rfl) (uQ Tryz.underlying3) (sF rfl (by kernel_rfl) amA (Qy rfl (by kernel_rfl) adf))))))))
theorem aaB:Opens Tryz.prog 56 Host:=ET (fun x:Host=>(x.name,x.labels,x.cpu,x.mem,x.slots,x.aT)) (fun p=>⟨p.1,p.2.1,p.2.2.1,p.2.2.2.1,p.2.2.2.2.1,p.2.2.2.2.2⟩) (fun _=>rfl) (xU Tryz.underlying56 (by kernel_rfl) (sF rfl (by kernel_rfl) (uS Tryz.underlying9) (sF rfl (by kernel_rfl) VA (sF rfl (by kernel_rfl) (uQ Tryz.underlying3) (sF rfl (by kernel_rfl) (uQ Tryz.underlying3) (sF rfl (by kernel_rfl) (uQ Tryz.underlying3) (Qy rfl (by kernel_rfl) akR)))))))
theorem amC:Opens Tryz.prog 22 (List Host):=yH Tryz.underlying22 (by kernel_rfl) aaB
theorem TI:Opens Tryz.prog 25 rZ:=ET (fun x:rZ=>(x.pack,x.spread,x.soft)) (fun p=>⟨p.1,p.2.1,p.2.2⟩) (fun _=>rfl) (xU Tryz.underlying25 (by kernel_rfl) (sF rfl (by kernel_rfl) (uQ Tryz.underlying3) (sF rfl (by kernel_rfl) (uQ Tryz.underlying3) (Qy rfl (by kernel_rfl) (uQ Tryz.underlying3)))))
theorem akS:Opens Tryz.prog 114 Placed:=ET (fun x:Placed=>(x.aS,x.on,x.seq)) (fun p=>⟨p.1,p.2.1,p.2.2⟩) (fun _=>rfl) (xU Tryz.underlying114 (by kernel_rfl) (sF rfl (by kernel_rfl) Aw (sF rfl (by kernel_rfl) (uS Tryz.underlying9) (Qy rfl (by kernel_rfl) (uQ Tryz.underlying3)))))
theorem ain:Opens Tryz.prog 23 (List Placed):=yH Tryz.underlying23 (by kernel_rfl) akS
theorem kR:Opens Tryz.prog 27 aU:=ET (fun x:aU=>(x.hosts,x.au,x.next,x.weights)) (fun p=>⟨p.1,p.2.1,p.2.2.1,p.2.2.2⟩) (fun _=>rfl) (xU Tryz.underlying27 (by kernel_rfl) (sF rfl (by kernel_rfl) amC (sF rfl (by kernel_rfl) ain (sF rfl (by kernel_rfl) (uQ Tryz.underlying3) (Qy rfl (by kernel_rfl) TI)))))
end Go.Proofs.YtfdgeonannkmaaaGreat
