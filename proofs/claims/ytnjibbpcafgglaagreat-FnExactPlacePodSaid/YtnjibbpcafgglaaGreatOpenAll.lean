/- An argument that reads as data, opened: the readings of Kit out of the form's own. -/
import Derived.Test.YtnjibbpcafgglaaGreatBase0
namespace Go.Proofs.YtnjibbpcafgglaaGreat
open Go.ChangeShapes Go.WideShapes Go.ChangeAt Go.RowKit
set_option linter.unusedVariables false
set_option linter.unusedSimpArgs false
def Opens (P:Program) (t:TypeId) (α:Type) [Dat α]:Prop:=∀(H:Type) (enc:TypeId × Value→H) (w:World) (base fuel:Nat) (spare:Nat→Bool) (held:Bool) (cs:List Value) (d:DataW H × List MemPlace),
 DataW.trod enc P w base spare held fuel t cs = some d→∃(x:α) (F:List Nat),rd w x cs F
theorem uQ {P:Program} {t:TypeId} (ht:P.underlying t = some (.int .i64)):Opens P t Int:=by
 intro H enc w base fuel spare held cs d h
 obtain ⟨n,rfl,_,hw⟩:=DataW.trod_int ht h
 refine ⟨n,[],rfl,rfl,?_⟩
 have:=hw
 simp [Lit.wf,IntKind.min,IntKind.max,IntKind.signed,IntKind.bits] at this
 exact this
theorem agT {P:Program} {t:TypeId} (ht:P.underlying t = some .bool):Opens P t Bool:=by
 intro H enc w base fuel spare held cs d h
 obtain ⟨n,rfl,_⟩:=DataW.trod_bool ht h
 exact ⟨n,[],rfl,rfl⟩
theorem uS {P:Program} {t:TypeId} (ht:P.underlying t = some .string):Opens P t ByteArray:=by
 intro H enc w base fuel spare held cs d h
 obtain ⟨n,rfl,_,hs⟩:=DataW.trod_string ht h
 exact ⟨n,[],rfl,rfl,hs⟩
def FO (P:Program) (fs:List Field) (off:Nat) (β:Type) [Dat β]:Prop:=∀(H:Type) (enc:TypeId × Value→H) (w:World) (base n:Nat) (spare:Nat→Bool) (held:Bool) (cs:List Value) (xs:List (DataW H × List MemPlace)),
 cs.length = off+Dat.size β→xs.length = fs.length→(∀(i:Nat) (f:Field),fs[i]? = some f→DataW.trod enc P w base spare held n f.type ((cs.drop f.offset).take (P.cellsOf f.type)) = xs[i]?)→∃(x:β) (F:List Nat),rd w x (cs.drop off) F
theorem Qy {P:Program} {f:Field} {off:Nat} {β:Type} [Dat β] (ho:f.offset = off) (hc:P.cellsOf f.type = Dat.size β) (h:Opens P f.type β):FO P [f] off β:=by
 intro H enc w base n spare held cs xs hl hx hf
 have h0:=hf 0 f rfl
 have hlt:0 < xs.length:=by rw [hx];simp
 rw [List.getElem?_eq_getElem hlt,ho,hc,List.take_of_length_le (by simp;omega)] at h0
 exact h H enc w base n spare held _ _ h0
theorem sF {P:Program} {f:Field} {fs:List Field} {off:Nat} {α β:Type} [Dat α] [Dat β] (ho:f.offset = off) (hc:P.cellsOf f.type = Dat.size α) (h:Opens P f.type α) (hr:FO P fs (off+Dat.size α) β):FO P (f :: fs) off (α × β):=by
 intro H enc w base n spare held cs xs hl hx hf
 have hl':cs.length = off+(Dat.size α+Dat.size β):=hl
 match xs,hx with
 | y :: ys,hx =>
   have h0:=hf 0 f rfl
   simp only [List.getElem?_cons_zero] at h0
   rw [ho,hc] at h0
   obtain ⟨x1,F1,h1⟩:=h H enc w base n spare held _ _ h0
   obtain ⟨x2,F2,h2⟩:=hr H enc w base n spare held cs ys (by omega) (by simpa using hx) (fun i f' hi=>by
    have:=hf (i+1) f' avv
    simpa using this)
   refine ⟨(x1,x2),F1++F2,_,_,F1,F2,?_,rfl,h1,h2⟩
   conv=>lhs;rw [← List.take_append_drop (Dat.size α) (cs.drop off)]
   rw [List.drop_drop]
theorem xU {P:Program} {t:TypeId} {fs:List Field} {β:Type} [Dat β] (ht:P.underlying t = some (.struct fs.toArray)) (hC:P.cellsOf t = Dat.size β) (hf:FO P fs 0 β):Opens P t β:=by
 intro H enc w base fuel spare held cs d h
 obtain ⟨xs,n,_,_,hl,hx,hg⟩:=DataW.trod_struct ht h
 have:=hf H enc w base n spare held cs xs (by omega) (by simpa using hx) (fun i f hi=>hg i f avv)
 simpa using this
theorem ET {P:Program} {t:TypeId} {α β:Type} [Dat β] (f:α→β) (g:β→α) (hfg:∀b,f (g b) = b) (h:Opens P t β):@Opens P t α (Dat.iso f):=by
 intro H enc w base fuel spare held cs d hd
 obtain ⟨x,F,hx⟩:=h H enc w base fuel spare held cs d hd
 exact ⟨g x,F,by show rd w (f (g x)) cs F;rw [hfg];exact hx⟩
theorem yH {P:Program} {t e:TypeId} {α:Type} [Dat α] (ht:P.underlying t = some (.slice e)) (hC:P.cellsOf e = Dat.size α) (h:Opens P e α):Opens P t (List α):=by
 intro H enc w base fuel spare held cs d hd
 rcases Deep.open_slice ht hd with ⟨rfl,_⟩ | ⟨a,len,cap,m,n,D,Pl,rfl,hb,hl,hm,hmm,hx,hi⟩
 ·exact ⟨[],[],Sl.nil w none 0 (Nat.zero_le _)⟩
 ·rcases Nat.eq_zero_or_pos len with rfl | hpos
  ·exact ⟨[],[],Sl.nil w (some a) cap hm⟩
  ·have hlm:len≤m:=by rw [hmm];split <;> omega
   have hpos':=Dat.pos (α:=α)
   have hsp:a.spot = none∧a.block < w.heap.size:=by
    obtain ⟨cs',hc,_⟩:=hi 0 (by omega)
    obtain ⟨_,hcl,hat⟩:=World.cells?_some hc
    have h0:=hat (i:=0) (by omega)
    simp only [Nat.zero_mul] at h0
    have e0:(a.add 0).add 0 = a:=by simp [Addr.add]
    rw [e0] at h0
    rw [List.getElem?_eq_getElem (by omega)] at h0
    refine ⟨?_,World.block_lt_of_cell? w a h0⟩
    unfold World.cell? at h0
    split at h0
    ·split at h0
     ·cases h0
     ·rename_i hs;simpa using hs
    ·cases h0
   obtain ⟨b,o,sp⟩:=a
   obtain ⟨rfl,hblt⟩:=hsp
   have step:∀k,k≤len→∃(xs:List α) (ds:List Value) (G:List Nat),xs.length = k∧jo w xs ds G∧∀j u,ds[j]? = some u→w.cell? ⟨b,o+j,none⟩ = some u:=by
    intro k
    induction k with
    | zero=>exact fun _=>⟨[],[],[],rfl,⟨rfl,rfl⟩,fun j u hu=>by simp at hu⟩
    | succ k ih =>
      intro hk
      obtain ⟨xs,ds,G,hxl,hr,hc⟩:=ih (by omega)
      obtain ⟨cs',hcs,htr⟩:=hi k (by omega)
      obtain ⟨x,F,hxr⟩:=h H enc w base n spare held cs' _ htr
      obtain ⟨_,hcl,hat⟩:=World.cells?_some hcs
      refine ⟨xs++[x],ds++cs',G++F,by simp [hxl],hr.append (.single hxr),fun j u hu=>?_⟩
      have hdl:=hr.len
      rw [hxl] at hdl
      by_cases hj:j < ds.length
      ·exact hc j u (by rwa [List.getElem?_append_left hj] at hu)
      ·rw [List.getElem?_append_right (by omega)] at hu
       have hj':=(List.getElem?_eq_some_iff.1 hu).1
       have h1:=hat (i:=j - ds.length) (by omega)
       rw [hu,hC] at h1
       have e1:((⟨b,o,none⟩:Addr).add (k * Dat.size α)).add (j - ds.length) = ⟨b,o+j,none⟩:=by
        rw [Deep.add_add]
        unfold Addr.add
        split
        ·simp <;> omega
        ·simp <;> omega
       rw [e1] at h1
       exact h1
   obtain ⟨xs,ds,G,hxl,hr,hc⟩:=step len (Nat.le_refl _)
   subst hxl
   exact ⟨xs,b :: G,_,cap,G,ds,rfl,hl,hm,hr,.inr ⟨b,o,rfl,rfl,hblt,hc⟩⟩
end Go.Proofs.YtnjibbpcafgglaaGreat
namespace Go.Proofs.YtnjibbpcafgglaaGreat
open Go.ChangeShapes Go.WideShapes Go.ChangeAt Go.RowKit
set_option linter.unusedVariables false
set_option linter.unusedSimpArgs false
theorem ZT:Opens Tryz.prog 65 (List ByteArray):=yH Tryz.underlying65 (by kernel_rfl) (uS Tryz.underlying9)
theorem amz:Opens Tryz.prog 146 Label:=ET (fun x:Label=>(x.key,x.value)) (fun p=>⟨p.1,p.2⟩) (fun _=>rfl) (xU Tryz.underlying146 (by kernel_rfl) (sF rfl (by kernel_rfl) (uS Tryz.underlying9) (Qy rfl (by kernel_rfl) (uS Tryz.underlying9))))
theorem VA:Opens Tryz.prog 68 (List Label):=yH Tryz.underlying68 (by kernel_rfl) amz
theorem aox:Opens Tryz.prog 175 Need:=ET (fun x:Need=>(x.key,x.op,x.values)) (fun p=>⟨p.1,p.2.1,p.2.2⟩) (fun _=>rfl) (xU Tryz.underlying175 (by kernel_rfl) (sF rfl (by kernel_rfl) (uS Tryz.underlying9) (sF rfl (by kernel_rfl) (uQ Tryz.underlying3) (Qy rfl (by kernel_rfl) ZT))))
theorem amA:Opens Tryz.prog 73 (List Need):=yH Tryz.underlying73 (by kernel_rfl) aox
theorem amB:Opens Tryz.prog 148 iU:=ET (fun x:iU=>(x.key,x.value,x.effect)) (fun p=>⟨p.1,p.2.1,p.2.2⟩) (fun _=>rfl) (xU Tryz.underlying148 (by kernel_rfl) (sF rfl (by kernel_rfl) (uS Tryz.underlying9) (sF rfl (by kernel_rfl) (uS Tryz.underlying9) (Qy rfl (by kernel_rfl) (uQ Tryz.underlying3)))))
theorem akR:Opens Tryz.prog 69 (List iU):=yH Tryz.underlying69 (by kernel_rfl) amB
theorem aeE:Opens Tryz.prog 177 bH:=ET (fun x:bH=>(x.key,x.equal,x.value,x.effect)) (fun p=>⟨p.1,p.2.1,p.2.2.1,p.2.2.2⟩) (fun _=>rfl) (xU Tryz.underlying177 (by kernel_rfl) (sF rfl (by kernel_rfl) (uS Tryz.underlying9) (sF rfl (by kernel_rfl) (agT Tryz.underlying4) (sF rfl (by kernel_rfl) (uS Tryz.underlying9) (Qy rfl (by kernel_rfl) (uQ Tryz.underlying3))))))
theorem adf:Opens Tryz.prog 74 (List bH):=yH Tryz.underlying74 (by kernel_rfl) aeE
theorem Aw:Opens Tryz.prog 76 nI:=ET (fun x:nI=>(x.name,x.labels,x.cpu,x.mem,x.rank,x.needs,x.tolerances)) (fun p=>⟨p.1,p.2.1,p.2.2.1,p.2.2.2.1,p.2.2.2.2.1,p.2.2.2.2.2.1,p.2.2.2.2.2.2⟩) (fun _=>rfl) (xU Tryz.underlying76 (by kernel_rfl) (sF rfl (by kernel_rfl) (uS Tryz.underlying9) (sF rfl (by kernel_rfl) VA (sF rfl (by kernel_rfl) (uQ Tryz.underlying3) (sF rfl (by kernel_rfl) (uQ Tryz.underlying3) (sF rfl (by kernel_rfl) (uQ Tryz.underlying3) (sF rfl (by kernel_rfl) amA (Qy rfl (by kernel_rfl) adf))))))))
theorem aaB:Opens Tryz.prog 71 Host:=ET (fun x:Host=>(x.name,x.labels,x.cpu,x.mem,x.slots,x.aT)) (fun p=>⟨p.1,p.2.1,p.2.2.1,p.2.2.2.1,p.2.2.2.2.1,p.2.2.2.2.2⟩) (fun _=>rfl) (xU Tryz.underlying71 (by kernel_rfl) (sF rfl (by kernel_rfl) (uS Tryz.underlying9) (sF rfl (by kernel_rfl) VA (sF rfl (by kernel_rfl) (uQ Tryz.underlying3) (sF rfl (by kernel_rfl) (uQ Tryz.underlying3) (sF rfl (by kernel_rfl) (uQ Tryz.underlying3) (Qy rfl (by kernel_rfl) akR)))))))
theorem amC:Opens Tryz.prog 22 (List Host):=yH Tryz.underlying22 (by kernel_rfl) aaB
theorem TI:Opens Tryz.prog 25 rZ:=ET (fun x:rZ=>(x.pack,x.spread,x.soft)) (fun p=>⟨p.1,p.2.1,p.2.2⟩) (fun _=>rfl) (xU Tryz.underlying25 (by kernel_rfl) (sF rfl (by kernel_rfl) (uQ Tryz.underlying3) (sF rfl (by kernel_rfl) (uQ Tryz.underlying3) (Qy rfl (by kernel_rfl) (uQ Tryz.underlying3)))))
theorem akS:Opens Tryz.prog 78 Placed:=ET (fun x:Placed=>(x.aS,x.on,x.seq)) (fun p=>⟨p.1,p.2.1,p.2.2⟩) (fun _=>rfl) (xU Tryz.underlying78 (by kernel_rfl) (sF rfl (by kernel_rfl) Aw (sF rfl (by kernel_rfl) (uS Tryz.underlying9) (Qy rfl (by kernel_rfl) (uQ Tryz.underlying3)))))
theorem ain:Opens Tryz.prog 23 (List Placed):=yH Tryz.underlying23 (by kernel_rfl) akS
theorem kR:Opens Tryz.prog 27 aU:=ET (fun x:aU=>(x.hosts,x.au,x.next,x.weights)) (fun p=>⟨p.1,p.2.1,p.2.2.1,p.2.2.2⟩) (fun _=>rfl) (xU Tryz.underlying27 (by kernel_rfl) (sF rfl (by kernel_rfl) amC (sF rfl (by kernel_rfl) ain (sF rfl (by kernel_rfl) (uQ Tryz.underlying3) (Qy rfl (by kernel_rfl) TI)))))
end Go.Proofs.YtnjibbpcafgglaaGreat
