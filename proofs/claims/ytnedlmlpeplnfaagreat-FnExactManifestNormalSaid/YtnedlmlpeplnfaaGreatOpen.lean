/- An argument that reads as data, opened: the readings of Kit out of the form's own. -/
import Derived.Test.YtnedlmlpeplnfaaGreatData
import Derived.Test.YtnedlmlpeplnfaaGreatRegion
namespace Go.Proofs.YtnedlmlpeplnfaaGreat
open Go.ChangeShapes Go.WideShapes Go.ChangeAt Go.RowKit
set_option linter.unusedVariables false
set_option linter.unusedSimpArgs false
set_option maxHeartbeats 400000
set_option maxRecDepth 100000
def Opens (P:Program) (t:TypeId) (α:Type) [Dat α]:Prop:=∀(H:Type) (enc:TypeId × Value→H) (w:World) (base fuel:Nat) (spare:Nat→Bool) (held:Bool) (cs:List Value) (d:DataW H × List MemPlace),
 DataW.trod enc P w base spare held fuel t cs = some d→∃(x:α) (F:List Nat),rd w x cs F
theorem uQ {P:Program} {t:TypeId} (ht:P.underlying t = some (.int .i64)):Opens P t Int:=by
 intro H enc w base fuel spare held cs d h;obtain ⟨n,rfl,_,hw⟩:=DataW.trod_int ht h;refine ⟨n,[],rfl,rfl,?_⟩;have:=hw;simp [Lit.wf,IntKind.min,IntKind.max,IntKind.signed,IntKind.bits] at this;exact this
theorem agT {P:Program} {t:TypeId} (ht:P.underlying t = some .bool):Opens P t Bool:=by
 intro H enc w base fuel spare held cs d h;obtain ⟨n,rfl,_⟩:=DataW.trod_bool ht h;exact ⟨n,[],rfl,rfl⟩
theorem uS {P:Program} {t:TypeId} (ht:P.underlying t = some .string):Opens P t ByteArray:=by
 intro H enc w base fuel spare held cs d h;obtain ⟨n,rfl,_,hs⟩:=DataW.trod_string ht h;exact ⟨n,[],rfl,rfl,hs⟩
def FO (P:Program) (fs:List Field) (off:Nat) (β:Type) [Dat β]:Prop:=∀(H:Type) (enc:TypeId × Value→H) (w:World) (base n:Nat) (spare:Nat→Bool) (held:Bool) (cs:List Value) (xs:List (DataW H × List MemPlace)),
 cs.length = off+Dat.size β→xs.length = fs.length→(∀(i:Nat) (f:Field),fs[i]? = some f→DataW.trod enc P w base spare held n f.type ((cs.drop f.offset).take (P.cellsOf f.type)) = xs[i]?)→∃(x:β) (F:List Nat),rd w x (cs.drop off) F
theorem Qy {P:Program} {f:Field} {off:Nat} {β:Type} [Dat β] (ho:f.offset = off) (hc:P.cellsOf f.type = Dat.size β) (h:Opens P f.type β):FO P [f] off β:=by
 intro H enc w base n spare held cs xs hl hx hf;have h0:=hf 0 f rfl;have hlt:0 < xs.length:=by rw [hx];simp
 rw [List.getElem?_eq_getElem hlt,ho,hc,List.take_of_length_le (by simp;omega)] at h0;exact h H enc w base n spare held _ _ h0
theorem sF {P:Program} {f:Field} {fs:List Field} {off:Nat} {α β:Type} [Dat α] [Dat β] (ho:f.offset = off) (hc:P.cellsOf f.type = Dat.size α) (h:Opens P f.type α) (hr:FO P fs (off+Dat.size α) β):FO P (f :: fs) off (α × β):=by
 intro H enc w base n spare held cs xs hl hx hf;have hl':cs.length = off+(Dat.size α+Dat.size β):=hl;match xs,hx with
 | y :: ys,hx =>
   have h0:=hf 0 f rfl;simp only [List.getElem?_cons_zero] at h0;rw [ho,hc] at h0;obtain ⟨x1,F1,h1⟩:=h H enc w base n spare held _ _ h0
   obtain ⟨x2,F2,h2⟩:=hr H enc w base n spare held cs ys O' (by simpa using hx) (fun i f' hi=>by
    have:=hf (i+1) f' avv
    simpa using this)
   refine ⟨(x1,x2),F1++F2,_,_,F1,F2,?_,rfl,h1,h2⟩;conv=>lhs;rw [← List.take_append_drop (Dat.size α) (cs.drop off)]
   rw [List.drop_drop]
theorem xU {P:Program} {t:TypeId} {fs:List Field} {β:Type} [Dat β] (ht:P.underlying t = some (.struct fs.toArray)) (hC:P.cellsOf t = Dat.size β) (hf:FO P fs 0 β):Opens P t β:=by
 intro H enc w base fuel spare held cs d h;obtain ⟨xs,n,_,_,hl,hx,hg⟩:=DataW.trod_struct ht h;have:=hf H enc w base n spare held cs xs O' (by simpa using hx) (fun i f hi=>hg i f avv);simpa using this
theorem ET {P:Program} {t:TypeId} {α β:Type} [Dat β] (f:α→β) (g:β→α) (hfg:∀b,f (g b) = b) (h:Opens P t β):@Opens P t α (Dat.iso f):=by
 intro H enc w base fuel spare held cs d hd;obtain ⟨x,F,hx⟩:=h H enc w base fuel spare held cs d hd;exact ⟨g x,F,by show rd w (f (g x)) cs F;rw [hfg];exact hx⟩
theorem yH {P:Program} {t e:TypeId} {α:Type} [Dat α] (ht:P.underlying t = some (.slice e)) (hC:P.cellsOf e = Dat.size α) (h:Opens P e α):Opens P t (List α):=by
 intro H enc w base fuel spare held cs d hd;rcases Deep.open_slice ht hd with ⟨rfl,_⟩ | ⟨a,len,cap,m,n,D,Pl,rfl,hb,hl,hm,hmm,hx,hi⟩
 ·exact ⟨[],[],Sl.nil w none 0 (Nat.zero_le _)⟩
 ·rcases Nat.eq_zero_or_pos len with rfl | hpos
  ·exact ⟨[],[],Sl.nil w (some a) cap hm⟩
  ·have hlm:len≤m:=(by rw [hmm];split <;> omega);have hpos':=Dat.pos (α:=α);have hsp:a.spot = none∧a.block < w.heap.size:=by
    obtain ⟨cs',hc,_⟩:=hi 0 O';obtain ⟨_,hcl,hat⟩:=World.cells?_some hc;have h0:=hat (i:=0) O';simp only [Nat.zero_mul] at h0;have e0:(a.add 0).add 0 = a:=(by simp [Addr.add]);rw [e0] at h0;rw [List.getElem?_eq_getElem O'] at h0;refine ⟨?_,World.block_lt_of_cell? w a h0⟩;unfold World.cell? at h0;split at h0
    ·split at h0
     ·cases h0
     ·rename_i hs;simpa using hs
    ·cases h0
   obtain ⟨b,o,sp⟩:=a;obtain ⟨rfl,hblt⟩:=hsp;have step:∀k,k≤len→∃(xs:List α) (ds:List Value) (G:List Nat),xs.length = k∧jo w xs ds G∧∀j u,ds[j]? = some u→w.cell? ⟨b,o+j,none⟩ = some u:=by
    intro k;induction k with
    | zero=>exact fun _=>⟨[],[],[],rfl,⟨rfl,rfl⟩,fun j u hu=>by simp at hu⟩
    | succ k ih =>
      intro hk;obtain ⟨xs,ds,G,hxl,hr,hc⟩:=ih O';obtain ⟨cs',hcs,htr⟩:=hi k O';obtain ⟨x,F,hxr⟩:=h H enc w base n spare held cs' _ htr;obtain ⟨_,hcl,hat⟩:=World.cells?_some hcs;refine ⟨xs++[x],ds++cs',G++F,by simp [hxl],hr.append (.single hxr),fun j u hu=>?_⟩;have hdl:=hr.len;rw [hxl] at hdl;by_cases hj:j < ds.length
      ·exact hc j u (by rwa [List.getElem?_append_left hj] at hu)
      ·rw [List.getElem?_append_right O'] at hu;have hj':=(List.getElem?_eq_some_iff.1 hu).1;have h1:=hat (i:=j - ds.length) O';rw [hu,hC] at h1;have e1:((⟨b,o,none⟩:Addr).add (k * Dat.size α)).add (j - ds.length) = ⟨b,o+j,none⟩:=by
        rw [Deep.add_add];unfold Addr.add;split
        ·simp <;> omega
        ·simp <;> omega
       rw [e1] at h1;exact h1
   obtain ⟨xs,ds,G,hxl,hr,hc⟩:=step len (Nat.le_refl _);subst hxl;exact ⟨xs,b :: G,_,cap,G,ds,rfl,hl,hm,hr,.inr ⟨b,o,rfl,rfl,hblt,hc⟩⟩
theorem ZT:Opens Tryz.prog 103 (List ByteArray):=yH Tryz.underlying103 U' (uS Tryz.underlying9)
theorem amz:Opens Tryz.prog 101 Label:=ET (fun x:Label=>(x.key,x.value)) (fun p=>⟨p.1,p.2⟩) (fun _=>rfl) (xU Tryz.underlying101 U' (sF rfl U' (uS Tryz.underlying9) (Qy rfl U' (uS Tryz.underlying9))))
theorem VA:Opens Tryz.prog 22 (List Label):=yH Tryz.underlying22 U' amz
theorem aox:Opens Tryz.prog 105 Need:=ET (fun x:Need=>(x.key,x.op,x.values)) (fun p=>⟨p.1,p.2.1,p.2.2⟩) (fun _=>rfl) (xU Tryz.underlying105 U' (sF rfl U' (uS Tryz.underlying9) (sF rfl U' (uQ Tryz.underlying3) (Qy rfl U' ZT))))
theorem amA:Opens Tryz.prog 23 (List Need):=yH Tryz.underlying23 U' aox
theorem amB:Opens Tryz.prog 109 iU:=ET (fun x:iU=>(x.key,x.value,x.effect)) (fun p=>⟨p.1,p.2.1,p.2.2⟩) (fun _=>rfl) (xU Tryz.underlying109 U' (sF rfl U' (uS Tryz.underlying9) (sF rfl U' (uS Tryz.underlying9) (Qy rfl U' (uQ Tryz.underlying3)))))
theorem akR:Opens Tryz.prog 27 (List iU):=yH Tryz.underlying27 U' amB
theorem aeE:Opens Tryz.prog 107 bH:=ET (fun x:bH=>(x.key,x.equal,x.value,x.effect)) (fun p=>⟨p.1,p.2.1,p.2.2.1,p.2.2.2⟩) (fun _=>rfl) (xU Tryz.underlying107 U' (sF rfl U' (uS Tryz.underlying9) (sF rfl U' (agT Tryz.underlying4) (sF rfl U' (uS Tryz.underlying9) (Qy rfl U' (uQ Tryz.underlying3))))))
theorem adf:Opens Tryz.prog 24 (List bH):=yH Tryz.underlying24 U' aeE
theorem Aw:Opens Tryz.prog 26 nI:=ET (fun x:nI=>(x.name,x.labels,x.cpu,x.mem,x.rank,x.needs,x.tolerances)) (fun p=>⟨p.1,p.2.1,p.2.2.1,p.2.2.2.1,p.2.2.2.2.1,p.2.2.2.2.2.1,p.2.2.2.2.2.2⟩) (fun _=>rfl) (xU Tryz.underlying26 U' (sF rfl U' (uS Tryz.underlying9) (sF rfl U' VA (sF rfl U' (uQ Tryz.underlying3) (sF rfl U' (uQ Tryz.underlying3) (sF rfl U' (uQ Tryz.underlying3) (sF rfl U' amA (Qy rfl U' adf))))))))
theorem aaB:Opens Tryz.prog 29 Host:=ET (fun x:Host=>(x.name,x.labels,x.cpu,x.mem,x.slots,x.aT)) (fun p=>⟨p.1,p.2.1,p.2.2.1,p.2.2.2.1,p.2.2.2.2.1,p.2.2.2.2.2⟩) (fun _=>rfl) (xU Tryz.underlying29 U' (sF rfl U' (uS Tryz.underlying9) (sF rfl U' VA (sF rfl U' (uQ Tryz.underlying3) (sF rfl U' (uQ Tryz.underlying3) (sF rfl U' (uQ Tryz.underlying3) (Qy rfl U' akR)))))))
theorem agU:Opens Tryz.prog 31 Manifest:=ET (fun x:Manifest=>(x.kind,x.aS,x.host)) (fun p=>⟨p.1,p.2.1,p.2.2⟩) (fun _=>rfl) (xU Tryz.underlying31 U' (sF rfl U' (uQ Tryz.underlying3) (sF rfl U' Aw (Qy rfl U' aaB))))
def acK (o:ByteArray) (c:UInt8) (k:Nat):Bool:=GL c.toNat || (o.data.toList.take k).contains c
theorem apb (o:ByteArray) (c:UInt8):acK o c 0 = GL c.toNat:=by simp [acK]
theorem apc (o:ByteArray) (c:UInt8):acK o c o.size = okB o c:=by
 unfold acK okB;rw [List.take_of_length_le (by rw [Array.length_toList];exact Nat.le_refl _)]
theorem apd {o:ByteArray} {c:UInt8} {k:Nat} (hk:k < o.size):acK o c (k+1) = (acK o c k || ((c.toNat:Int) == (o[k].toNat:Int))):=by
 have hk':k < o.data.toList.length:=by simpa using hk
 unfold acK;rw [List.take_succ_eq_append_getElem hk',List.contains_eq_any_beq,List.contains_eq_any_beq,List.any_append,Bool.or_assoc];congr 2;simp only [List.any_cons,List.any_nil,Bool.or_false,Array.getElem_toList];rw [Bool.eq_iff_iff,beq_iff_eq,beq_iff_eq,ByteArray.getElem_eq_getElem_data];constructor
 ·intro h;rw [← h]
 ·intro h;exact UInt8.toNat_inj.1 O'
theorem Wu (s o:ByteArray) (w:World) (hs2:(s.size:Int)≤1048576) (ho:(o.size:Int)≤1048576):Calls Tryz.prog 157 #[.string s,.string o] w fun e w'=>e = .returned (.bool (GN o s))∧Below w.heap.size w w':=by
 by_cases hs:0 < s.size
 ·have hz:((s.size:Int) == 0) = false:=by rw [beq_eq_false_iff_ne];omega
  cases h1:GL (s[0].toNat:Int) with
  | false =>
    have hfin:GN o s = false:=(by unfold GN;rw [DF hs,h1];simp);have HF:=I' hfin;have H1:=I' h1;clear h1 hfin;go_enter Tryz.func157,Tryz.ntmps157;go_wp2_with fail
    refine (Gm (s[0].toNat:Int) _).mono ?_;rw [H1.out];exact Zacv
  | true =>
    cases h2:GL (s[s.size - 1].toNat:Int) with
    | false =>
      have hfin:GN o s = false:=(by unfold GN;rw [DF hs,DF (show s.size - 1 < s.size by omega),h1,h2];simp);have HF:=I' hfin;have H1:=I' h1;have H2:=I' h2;clear h1 h2 hfin;go_enter Tryz.func157,Tryz.ntmps157;go_wp2_with fail
      refine (Gm (s[0].toNat:Int) _).mono ?_;rw [H1.out];rintro e w2 ⟨rfl,hw⟩;rw [hw];clear hw w2;go_wp2_with fail
      refine (Gm (s[s.size - 1].toNat:Int) _).mono ?_;rw [H2.out];exact Zacv
    | true =>
      have hfin:GN o s = s.data.toList.all (okB o):=(by unfold GN;rw [DF hs,DF (show s.size - 1 < s.size by omega),h1,h2];simp [hs]);have HF:=I' hfin;have H1:=I' h1;have H2:=I' h2;clear h1 h2 hfin;go_enter Tryz.func157,Tryz.ntmps157;go_wp2_with fail
      refine (Gm (s[0].toNat:Int) _).mono ?_;rw [H1.out];rintro e w2 ⟨rfl,hw⟩;rw [hw];clear hw w2;go_wp2_with fail
      refine (Gm (s[s.size - 1].toNat:Int) _).mono ?_;rw [H2.out];rintro e w2 ⟨rfl,hw⟩;rw [hw];clear hw w2;go_wp2_with fail
      go_loopw [5] (fun v wr=>∃(k:Nat),k≤s.size∧v = .int .i64 k∧Hid (∀j (hj:j < s.size),j < k→okB o s[j] = true)∧Below w.heap.size w wr) (fun v _=>s.size - (intOf v).toNat)
      case atStart=>exact ⟨0,Nat.zero_le _,rfl,fun j _ hj=>by omega,aj _⟩
      case round =>
       obtain ⟨k,hk,rfl,hall,hbl⟩:=hrel;by_cases hlt:k < s.size
       ·go_wp2_with fail
        refine (Gm (s[k].toNat:Int) _).mono ?_;rw [← apb o s[k]];rintro e w2 ⟨rfl,hw⟩;rw [hw];clear hw w2;go_wp2_with fail
        go_loopw [6,7] (fun v u wi=>∃(j:Nat),j≤o.size∧u = .int .i64 j∧v = .bool (acK o s[k] j)∧Below w.heap.size w wi) (fun _ u _=>o.size - (intOf u).toNat)
        case atStart=>exact ⟨0,Nat.zero_le _,rfl,rfl,hbl⟩
        case round =>
         obtain ⟨j,hj,rfl,rfl,hbi⟩:=hrel;by_cases hjl:j < o.size
         ·have HA:=I' (apd (c:=s[k]) hjl);generalize hb:acK o s[k] j = b at *;cases b
          all_goals
           clear hb;go_wp2_with fail
           refine aF _ U' U' (aj _) ?_
           repeat (first
            | (apply aG
               case hw=>rfl
               simp only [Act.put,pz])
            | (apply aH
               case hw=>rfl
               case h =>exact Zaag
               simp only [Act.put,pz]))
           refine aN ?_;intro wn hn;replace hn:=hn.out;go_wp2;exact ⟨⟨j+1,O',N',by rw [HA.out];rfl,ah hbi hn⟩,by simp [intOf];omega⟩
         ·have hjo:j = o.size:=O';subst hjo;rw [apc];cases hok:okB o s[k] with
          | true =>have HN:=I' (X4 hlt hall.out hok);clear hok;go_wp2;exact ⟨⟨k+1,O',N',HN.out,hbi⟩,by simp [intOf];omega⟩
          | false =>
            have HG:=I' (TM hlt hok);clear hok;go_wp2;go_ret
            exact ⟨by rw [HF.out,HG.out];rfl,hbi⟩
       ·have hkl:k = s.size:=O';subst hkl;have HG:=I' (YX (p:=okB o) (fun j hj=>hall.out j hj hj));go_wp2;go_ret
        exact ⟨by rw [HF.out,HG.out];rfl,hbl⟩
 ·have hs0:s.size = 0:=by omega
  have hfin:GN o s = false:=by unfold GN;simp [hs0]
  have HF:=I' hfin;clear hfin;go_enter Tryz.func157,Tryz.ntmps157;go_wp2;go_ret
  exact ⟨by rw [HF.out];rfl,aj _⟩
def anG:ByteArray:=⟨#[45,95,46,47]⟩
def oVal:ByteArray:=⟨#[45,95,46]⟩
def Cm (s:ByteArray):Bool:=decide ((s.size:Int)≤30)&&GN anG s
def AQ (s:ByteArray):Bool:=decide (s.size = 0) || (decide ((s.size:Int)≤20)&&GN oVal s)
theorem Ou {o s:ByteArray} (h:¬0 < s.size):GN o s = false:=by unfold GN;simp [h]
theorem Y4 {s:ByteArray} (h:s.size = 0):s = ⟨#[]⟩:=by
 obtain ⟨d⟩:=s;congr 1;exact Array.eq_empty_of_size_eq_zero h
theorem Y3 {s:ByteArray} (h:0 < s.size):(s.toList == []) = false:=by
 rw [beq_eq_false_iff_ne];intro e;rw [ByteArray.toList_eq] at e;have h2:s.data.toList.length = 0:=by rw [e];rfl
 rw [Array.length_toList] at h2;have h3:s.size = s.data.size:=rfl;omega
theorem rX (s:ByteArray) (w:World) (hs2:(s.size:Int)≤1048576):Calls Tryz.prog 138 #[.string s] w fun e w'=>e = .returned (.bool (Cm s))∧Below w.heap.size w w':=by
 by_cases hs:0 < s.size
 ·have hz:((s.size:Int) == 0) = false:=by rw [beq_eq_false_iff_ne];omega
  by_cases h30:(s.size:Int)≤30
  ·cases hW:GN anG s
   all_goals
    have hfin:Cm s = _:=(by unfold Cm;rw [hW]);simp only [h30,decide_true,Bool.true_and] at hfin;have HF:=I' hfin;have HW:=I' hW;clear hfin hW;go_enter Tryz.func138,Tryz.ntmps138;go_wp2_with (first | (go_at_call 161;refine (aef s anG _ hs O').mono ?_;rw [HW.out];rintro e w2 ⟨rfl,hw⟩;rw [hw];clear hw w2) | go_in)
    go_ret
    exact ⟨by rw [HF.out];rfl,atS⟩
  ·have hfin:Cm s = false:=(by unfold Cm;simp [h30]);have HF:=I' hfin;clear hfin;go_enter Tryz.func138,Tryz.ntmps138;exact Zaa9
 ·have hfin:Cm s = false:=by unfold Cm;rw [Ou hs];simp
  have HF:=I' hfin;have hs0:(s.size:Int) = 0:=by omega
  have HW:=I' (Ou (o:=anG) hs);clear hfin;go_enter Tryz.func138,Tryz.ntmps138;exact Zaa9
theorem xQ (s:ByteArray) (w:World) (hs2:(s.size:Int)≤1048576):Calls Tryz.prog 139 #[.string s] w fun e w'=>e = .returned (.bool (AQ s))∧Below w.heap.size w w':=by
 by_cases hs:0 < s.size
 ·have hz:((s.size:Int) == 0) = false:=by rw [beq_eq_false_iff_ne];omega
  have hne:=Y3 hs;have hs0:¬s.size = 0:=by omega
  by_cases h30:(s.size:Int)≤20
  ·cases hW:GN oVal s
   all_goals
    have hfin:AQ s = _:=(by unfold AQ;rw [hW]);simp only [h30,hs0,decide_true,decide_false,Bool.true_and,Bool.false_or] at hfin;have HF:=I' hfin;have HW:=I' hW;clear hfin hW;go_enter Tryz.func139,Tryz.ntmps139;go_wp2_with (first | (go_at_call 161;refine (aef s oVal _ hs O').mono ?_;rw [HW.out];rintro e w2 ⟨rfl,hw⟩;rw [hw];clear hw w2) | go_in)
    go_ret
    exact ⟨by rw [HF.out];rfl,atS⟩
  ·have hfin:AQ s = false:=(by unfold AQ;simp [h30,hs0]);have HF:=I' hfin;clear hfin;go_enter Tryz.func139,Tryz.ntmps139;exact Zaa9
 ·obtain rfl:=Y4 (s:=s) O';go_enter Tryz.func139,Tryz.ntmps139;go_wp2;go_ret
  exact ⟨J',atS⟩
theorem qK (s:ByteArray) (w:World) (hs2:(s.size:Int)≤1048576):Calls Tryz.prog 129 #[.string s] w fun e w'=>e = .returned (.bool (Cm s))∧Below w.heap.size w w':=by
 by_cases hs:0 < s.size
 ·have hz:((s.size:Int) == 0) = false:=by rw [beq_eq_false_iff_ne];omega
  by_cases h30:(s.size:Int)≤30
  ·cases hW:GN anG s
   all_goals
    have hfin:Cm s = _:=(by unfold Cm;rw [hW]);simp only [h30,decide_true,Bool.true_and] at hfin;have HF:=I' hfin;have HW:=I' hW;clear hfin hW;go_enter Tryz.func129,Tryz.ntmps129;go_wp2_with (first | (go_at_call 157;refine (Wu s anG _ O' (by decide)).mono ?_;rw [HW.out];rintro e w2 ⟨rfl,hb2⟩) | go_in)
    go_ret
    exact ⟨by rw [HF.out];rfl,atS⟩
  ·have hfin:Cm s = false:=(by unfold Cm;simp [h30]);have HF:=I' hfin;clear hfin;go_enter Tryz.func129,Tryz.ntmps129;exact Zaa9
 ·have hfin:Cm s = false:=by unfold Cm;rw [Ou hs];simp
  have HF:=I' hfin;have hs0:(s.size:Int) = 0:=by omega
  have HW:=I' (Ou (o:=anG) hs);clear hfin;go_enter Tryz.func129,Tryz.ntmps129;go_wp2_with (first | (go_at_call 157;refine (Wu s anG _ O' (by decide)).mono ?_;rw [HW.out];rintro e w2 ⟨rfl,hb2⟩) | go_in)
  go_ret
  exact ⟨by rw [HF.out];rfl,atS⟩
theorem vH (s:ByteArray) (w:World) (hs2:(s.size:Int)≤1048576):Calls Tryz.prog 130 #[.string s] w fun e w'=>e = .returned (.bool (AQ s))∧Below w.heap.size w w':=by
 by_cases hs:0 < s.size
 ·have hz:((s.size:Int) == 0) = false:=by rw [beq_eq_false_iff_ne];omega
  have hne:=Y3 hs;have hs0:¬s.size = 0:=by omega
  by_cases h30:(s.size:Int)≤20
  ·cases hW:GN oVal s
   all_goals
    have hfin:AQ s = _:=(by unfold AQ;rw [hW]);simp only [h30,hs0,decide_true,decide_false,Bool.true_and,Bool.false_or] at hfin;have HF:=I' hfin;have HW:=I' hW;clear hfin hW;go_enter Tryz.func130,Tryz.ntmps130;go_wp2_with (first | (go_at_call 157;refine (Wu s oVal _ O' (by decide)).mono ?_;rw [HW.out];rintro e w2 ⟨rfl,hb2⟩) | go_in)
    go_ret
    exact ⟨by rw [HF.out];rfl,atS⟩
  ·have hfin:AQ s = false:=(by unfold AQ;simp [h30,hs0]);have HF:=I' hfin;clear hfin;go_enter Tryz.func130,Tryz.ntmps130;exact Zaa9
 ·obtain rfl:=Y4 (s:=s) O';go_enter Tryz.func130,Tryz.ntmps130;go_wp2;go_ret
  exact ⟨J',atS⟩
end Go.Proofs.YtnedlmlpeplnfaaGreat
