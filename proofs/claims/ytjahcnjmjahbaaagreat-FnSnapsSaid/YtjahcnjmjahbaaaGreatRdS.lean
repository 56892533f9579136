/- The reference's reader of bytes. No condition. -/
import Derived.Test.YtjahcnjmjahbaaaGreatClone
namespace Go.Proofs.YtjahcnjmjahbaaaGreat
open Go.ChangeShapes Go.WideShapes Go.ChangeAt Go.RowKit
set_option linter.unusedVariables false
set_option linter.unusedSimpArgs false
set_option maxHeartbeats 4000000
set_option maxRecDepth 100000
def yM (w:World) (b:Nat) (s:ByteArray) (st:Int × Bool):Prop:=(∃t,w.heap[b]? = some (.cells #[.string s,.int .i64 st.1,.bool st.2] t (0,0)))∧bi st.1
section
variable {w w':World} {b:Nat} {s:ByteArray} {st:Int × Bool}
theorem yM.lt (h:yM w b s st):b < w.heap.size:=by
 obtain ⟨⟨t,h⟩,_⟩:=h;exact zI
theorem yM.c0 (h:yM w b s st):w.cell? ⟨b,0,none⟩ = some (.string s):=by obtain ⟨⟨t,h⟩,_⟩:=h;rw [cell_of_row w b 0 _ t (0,0) h];rfl
theorem yM.c1 (h:yM w b s st):w.cell? ⟨b,1,none⟩ = some (.int .i64 st.1):=by obtain ⟨⟨t,h⟩,_⟩:=h;rw [cell_of_row w b 1 _ t (0,0) h];rfl
theorem yM.c2 (h:yM w b s st):w.cell? ⟨b,2,none⟩ = some (.bool st.2):=by obtain ⟨⟨t,h⟩,_⟩:=h;rw [cell_of_row w b 2 _ t (0,0) h];rfl
theorem yM.fz (h:yM w b s st) (i:Nat):w.frozen? ⟨b,i,none⟩ = false:=by obtain ⟨⟨t,h⟩,_⟩:=h;simp [World.frozen?,h]
theorem yM.br (h:yM w b s st) (hk:w'.heap[b]? = w.heap[b]?):yM w' b s st:=by obtain ⟨⟨t,h⟩,hi⟩:=h;exact ⟨⟨t,hk.trans h⟩,hi⟩
theorem yM.ext (h:yM w b s st) (hb:Below w.heap.size w w'):yM w' b s st:=h.br (hb.block b h.lt)
theorem yM.gj (h:yM w b s st) {a':Int} (ha:bi a'):yM (w.setCell ⟨b,1,none⟩ (.int .i64 a')) b s (a',st.2):=by
 obtain ⟨⟨t,h⟩,_⟩:=h;exact ⟨⟨t,by simp [World.setCell,Array.getElem?_modify,h]⟩,ha⟩
end
theorem xw {w:World} {B e size n c i:Nat} {v u:Value} {xs:List Value} (h:w.ownsRow B e size v n xs) (hc:∀g,v.ownBlock = some g→g≠c):(w.setCell ⟨c,i,none⟩ u).ownsRow B e size v n xs :=
 h.kept (row:=some c) ⟨rfl,rfl,rfl,by simp [World.setCell],fun k hk cq=>Below.heap_setCell _ _ _ _ (by intro e;apply cq;rw [e])⟩ (by
   by_cases hv:v.ownBlock = some c
   ·exact absurd rfl (hc c hv)
   ·exact .inr hv)
theorem nN.xZ {F:List Nat} {w w1:World} (h:nN F w w1) {p:Addr} (hp:w.heap.size≤p.block) (u:Value):nN F w (w1.setCell p u) :=
 ⟨h.os,h.tape,h.output,by simpa [World.setCell] using h.size,fun i hi hn=>(Below.heap_setCell _ _ _ _ J).trans (h.block i hi hn)⟩
theorem nN.grown {F:List Nat} {w w1 w2:World} {row:Option Nat} (h:nN F w w1) (hg:w1.grownBy w2 row) (hr:∀g,row = some g→w.heap.size≤g):nN F w w2 :=
 ⟨hg.os.trans h.os,hg.tape.trans h.tape,hg.output.trans h.output,Nat.le_trans h.size hg.size,fun i hi hn=>(hg.block i (Nat.lt_of_lt_of_le hi h.size) (by intro e;have:=hr i e.symm;omega)).trans (h.block i hi hn)⟩
theorem adl:(Tryz.prog.info? 57).map (fun i=>(i.zero,i.size,i.bytes)) = some (some (.agg #[.string ⟨#[]⟩,.string ⟨#[]⟩]),2,32):=by kernel_rfl
theorem ae6:DL Tryz.prog 35 57 (.agg #[.string ⟨#[]⟩,.string ⟨#[]⟩]) 2 32:=⟨Tryz.underlying35,adl,rfl,J⟩
theorem aY.lab {w w':World} {B:Nat} {xs:List ao} {ds:List Value} (h:aY w B xs ds []) (hs:w.heap.size≤w'.heap.size) {l:ao} (h1:(l.key.size:Int)≤1048576) (h2:(l.value.size:Int)≤1048576):aY w' B (xs++[l]) (ds++[.string l.key,.string l.value]) [] :=
 ⟨(h.rd.frame (fun b hb=>by cases hb) hs).append (.single (Ss w' l ja ja)),List.nodup_nil,(fun b hb=>by cases hb),(fun b hb=>by cases hb)⟩
theorem qR (s:ByteArray) (a:Int) (hs:(s.size:Int)≤1048576):((dP s a).1.size:Int)≤1048576:=by
 unfold dP;split
 ·show (0:Int)≤_;omega
 ·exact (Oq s a hs).1
theorem aaT (s:ByteArray) (b:Nat) (a:Int) (w:World) (h:zk w b s a) (hs:(s.size:Int)≤1048576) :
 Calls Tryz.prog 51 #[.pointer (some ⟨b,0,none⟩)] w fun e w'=>∃A c F,e = .returned (.slice A (iF s a).1.length c)∧am w' w.heap.size (iF s a).1 [.slice A (iF s a).1.length c] F∧zk w' b s (iF s a).2∧nN [b] w w':=by
 have ap:=h.lt;have Dd:=vI s 6 a (by decide);have HC:=I (cL s b a 6);have Wm:=I (show iP s a = qX (xu s) (jC s 6 a).1.toNat [] (jC s 6 a).2 from rfl);have HLI:=I (show iF s a = ((iP s a).1,if sD (iP s a).1 = true then (iP s a).2 else -1) from rfl);have H:=I h;clear h;generalize jC s 6 a = q at *;generalize iP s a = R at *;obtain ⟨N,hN⟩:∃N:Nat,q.1 = N:=⟨q.1.toNat,J⟩;have hN6:N≤6:=by omega
 have HN:=I hN;clear hN Dd;go_enter Tryz.func51,Tryz.ntmps51;go_wp2_with fail
 refine (HC.out _ (H.out.ext (ak (aj _) _)) hs (by decide)).mono ?_;rw [HN.out];rintro e w2 ⟨rfl,fL,cR⟩;have Wo:nN [b] w w2:=(nN.lq [b] (ak (aj _) _)).trans cR;have bI:=rQ (World.ownsRow_made (base:=w.heap.size) (e:=57) (size:=2) w #[] 0 (Nat.le_refl _) ja rfl) cR ap;have cS:=Wm.out;rw [HN.out,Int.toNat_natCast] at cS;have De:=I cS.symm;clear cS;go_wp2_with fail
 go_loopw [3,4] (fun v n wr=>∃(k:Nat) (xs:List ao) (ds:List Value) (a':Int),n = .int .i64 k∧xs.length+k≤6∧Hid (qX (xu s) k xs a' = R)∧Hid (∀l∈xs,(l.key.size:Int)≤1048576∧(l.value.size:Int)≤1048576)∧wr.ownsRow w.heap.size 57 2 v xs.length ds∧aY wr w.heap.size xs ds []∧zk wr b s a'∧nN [b] w wr) (fun _ n _=>(intOf n).toNat)
 case atStart=>exact ⟨N,[],[],q.2,rfl,by simpa using hN6,De.out,(fun l hl=>by cases hl),(by simpa using bI),aY.nil _ _,fL,Wo⟩
 case round =>
  obtain ⟨k,xs,ds,a',rfl,hk6,HL,Eo,aR,cT,hI,hu⟩:=hrel;cases k with
  | zero =>
    have cY:=HL.out;rw [qX] at cY;have Wq:=I cY.symm;clear cY;obtain ⟨Al,cl,Gl,rfl,hO⟩:=am.oJ aR cT (fun _ _ hb=>by cases hb);have HI:=I hI;have HO:=I hO;have HU:=I hu;have kv:(xs.length:Int)≤1048576:=J;clear hI hO hu aR cT;go_wp2_with fail
    refine (Jv xs Al _ cl Gl _ HO.out.rd rfl kv Eo.out).mono ?_;rintro e w3 ⟨rfl,bj⟩;go_wp2_with fail
    refine (UG s b a' _ _ (HI.out.ext bj)).mono ?_;rintro e w4 ⟨rfl,hI4,Td⟩;have kr:=Td.jk (HO.out.ext bj) (fun y hy hb=>by have:=HO.out.base y hy;simp only [List.mem_singleton] at hb;omega);have Py:=(HU.out.trans (nN.lq [b] bj)).trans Td;have HF:=I (show iF s a = (xs,if sD xs = true then a' else -1) by rw [HLI.out,Wq.out]);go_wp2;go_ret
    rw [HF.out];exact ⟨Al,cl,Gl,rfl,kr,hI4,Py⟩
  | succ k =>
    have cY:=HL.out;rw [qX] at cY;have ox:=I cY;have zR:=qR s a' hs;have DY:=qR s (dP s a').2 hs;have pS:=I (fun (wq:World) (hq:zk wq b s a')=>CW s b a' wq hq hs);have pT:=I (fun (wq:World) (hq:zk wq b s (dP s a').2)=>CW s b (dP s a').2 wq hq hs);have HE:=I (show xu s a' = (⟨(dP s a').1,(dP s (dP s a').2).1⟩,(dP s (dP s a').2).2) from rfl);have nv:(((k+1:Nat):Int) - 1) = (k:Int):=J;clear cY;generalize dP s (dP s a').2 = t2 at *;generalize dP s a' = t1 at *;have Qy:wr.heap.size≤wr.heap.size:=Nat.le_refl _;have ni:b < wr.heap.size:=hI.lt;go_wp2_with fail
    refine (pS.out _ (hI.ext bs)).mono ?_;rintro e w3 ⟨rfl,TR,b8⟩;go_wp2_with fail
    refine (pT.out _ (TR.ext bs)).mono ?_;rintro e w4 ⟨rfl,hI4,Td⟩;have e4:=Td.block w3.heap.size S' (by have:=TR.lt;simp;omega);have m0:w4.cell? ⟨w3.heap.size,0,none⟩ = some (.string t1.1):=(by rw [World.cell?_of_block e4,cell_of_row _ _ _ _ _ _ (heap_alloc_new w3 _)];rfl);have m1:w4.cell? ⟨w3.heap.size,1,none⟩ = some (.string ⟨#[]⟩):=(by rw [World.cell?_of_block e4,cell_of_row _ _ _ _ _ _ (heap_alloc_new w3 _)];rfl);have mf:w4.frozen? ⟨w3.heap.size,1,none⟩ = false:=(by rw [heap_alloc_new] at e4;simp [World.frozen?,e4]);have Wy:w3.heap.size < w4.heap.size:=(by have:=Td.size;simp at this;omega);have eK:wr.heap.size≤w3.heap.size:=b8.size;have ot:w.heap.size≤wr.heap.size:=hu.size;have eN:=rQ aR b8 ap;have lP:=xw (c:=w3.heap.size) (i:=1) (u:=.string t2.1) (rQ (eN.alloc _) Td ap) (fun g hg=>by have:=(eN.lt g hg).2;omega);have sw:=zk.br (w':=w4.setCell ⟨w3.heap.size,1,none⟩ (.string t2.1)) hI4 (Below.heap_setCell _ _ _ _ bz);have hU5:=(((hu.trans b8).alloc _).trans Td).xZ (p:=⟨w3.heap.size,1,none⟩) bz (.string t2.1);have Es:w.heap.size≤(w4.setCell ⟨w3.heap.size,1,none⟩ (.string t2.1)).heap.size:=hU5.size;have Ql:wr.heap.size≤(w4.setCell ⟨w3.heap.size,1,none⟩ (.string t2.1)).heap.size:=(by simp [World.setCell];omega);clear e4 eN hI hu TR b8 hI4 Td;have pt:xs.length≤6:=J
    go_wp2_with (
     at_builtin
     go_must (refine lC ae6 X _ _ X _ _ _ _ _ lP X [.string t1.1,.string t2.1] jS X eu J J Es ?_)
     intro v6 w6 oC Ej sC)
    have fb:=ox.out;rw [HE.out] at fb;replace fb:Hid (qX (xu s) k (xs++[⟨t1.1,t2.1⟩]) t2.2 = R):=fb;have cq:some b≠u3.ownBlock:=(by intro e;have:=(lP.lt b e.symm).1;omega);refine ⟨⟨k,xs++[⟨t1.1,t2.1⟩],_,t2.2,N',by simp;omega,fb,?_,(by rw [List.length_append];exact oC),aY.lab cT (Nat.le_trans Ql Ej.size) zR DY,sw.br (Ej.block b sw.lt cq),hU5.grown Ej (fun g hg=>(lP.lt g hg).1)⟩,by simp [intOf]⟩;exact I7
theorem rE {w:World} {B e size n:Nat} {v:Value} {xs:List Value} (h:w.ownsRow B e size v n xs):∃A c,v = .slice A n c:=by
 exact JP
theorem yt (s:ByteArray) (a:Int) (hs:(s.size:Int)≤1048576):bi (fG s a).1:=(aha s a hs).1
theorem zk.bE {w:World} {b c:Nat} {s:ByteArray} {a:Int} (h:zk w b s a) (hc:c≠b) (i:Nat) (u:Value):zk (w.setCell ⟨c,i,none⟩ u) b s a:=h.br (Below.heap_setCell _ _ _ _ bz)
structure St (z:List Value) (w wk:World) (b g:Nat) (s:ByteArray) (a:Int) (cs:List Value):Prop where
 b5:zk wk b s a
 bX:nN [b] w wk
 bw:oG wk g cs
 rb:oG wk w.heap.size z
 hb:b < w.heap.size
 hg:w.heap.size < g
section
variable {z:List Value} {w wk w':World} {b g:Nat} {s:ByteArray} {a a':Int} {cs:List Value}
theorem St.call (h:St z w wk b g s a cs) (hc:zk w' b s a') (hu:nN [b] wk w'):St z w w' b g s a' cs :=
 ⟨hc,h.bX.trans hu,h.bw.bX hu D2,h.rb.bX hu (by have:=h.hb;omega),h.hb,h.hg⟩
theorem St.put (h:St z w wk b g s a cs) (i:Nat) (u:Value):St z w (wk.setCell ⟨g,i,none⟩ u) b g s a (cs.set i u) :=
 ⟨h.b5.bE D2 i u,h.bX.xZ (p:=⟨g,i,none⟩) Pg u,h.bw.put i u,h.rb.bE (by have:=h.hg;omega) i u,h.hb,h.hg⟩
theorem St.ext (h:St z w wk b g s a cs) (hb:Below wk.heap.size wk w'):St z w w' b g s a cs:=⟨h.b5.ext hb,h.bX.trans (nN.lq [b] hb),h.bw.ext hb,h.rb.ext hb,h.hb,h.hg⟩
theorem St.alloc (h:St z w wk b g s a cs) (o:Obj):St z w (wk.alloc o) b g s a cs:=h.ext (ak (aj _) o)
theorem St.bE (h:St z w wk b g s a cs) {c:Nat} (hc:g < c) (i:Nat) (u:Value):St z w (wk.setCell ⟨c,i,none⟩ u) b g s a cs :=
 ⟨h.b5.bE D2 i u,h.bX.xZ (p:=⟨c,i,none⟩) Pg u,h.bw.bE J i u,h.rb.bE (by have:=h.hg;omega) i u,h.hb,h.hg⟩
theorem St.grown {row:Option Nat} (h:St z w wk b g s a cs) (hg:wk.grownBy w' row) (hr:∀q,row = some q→g < q):St z w w' b g s a cs :=
 ⟨h.b5.br (hg.block b h.b5.lt (by intro e;have:=hr b e.symm;have:=h.hb;have:=h.hg;omega)),h.bX.grown hg (fun q hq=>by have:=hr q hq;have:=h.hg;omega),h.bw.br (hg.block g h.bw.lt (by intro e;have:=hr g e.symm;omega)),h.rb.br (hg.block _ h.rb.lt (by intro e;have:=hr _ e.symm;have:=h.hg;omega)),h.hb,h.hg⟩
end
theorem II {α:Type} {r:Int→α × Int} {p:α→Prop} (hr:∀a,p (r a).1):∀(k:Nat) (xs:List α) (a:Int),(∀x∈xs,p x)→∀x∈(qX r k xs a).1,p x
 | 0,_,_,h=>h
 | k+1,xs,a,h=>by
   rw [qX];refine II hr k _ _ (fun x hx=>?_);rcases List.mem_append.1 hx with hx | hx
   ·exact h x hx
   ·simp only [List.mem_singleton] at hx;rw [hx];exact hr a
theorem Kw (s:ByteArray) (a:Int):(iF s a).1.length≤6:=by
 have h:=MQ (xu s) (jC s 6 a).1.toNat [] (jC s 6 a).2;have:=vI s 6 a (by decide);show (iP s a).1.length≤6;unfold iP;rw [h,List.length_nil];omega
theorem NM (s:ByteArray) (a:Int) (hs:(s.size:Int)≤1048576):∀l∈(iF s a).1,(l.key.size:Int)≤1048576∧(l.value.size:Int)≤1048576 :=
 II (fun a=>⟨qR s _ hs,qR s _ hs⟩) _ _ _ (fun l hl=>by cases hl)
theorem yM.bE {w:World} {b c:Nat} {s:ByteArray} {a:Int × Bool} (h:yM w b s a) (hc:c≠b) (i:Nat) (u:Value):yM (w.setCell ⟨c,i,none⟩ u) b s a:=h.br (Below.heap_setCell _ _ _ _ bz)
structure lQ (z:List Value) (w wk:World) (b g:Nat) (s:ByteArray) (a:Int × Bool) (cs:List Value):Prop where
 b5:yM wk b s a
 bX:nN [b] w wk
 bw:oG wk g cs
 rb:oG wk w.heap.size z
 hb:b < w.heap.size
 hg:w.heap.size < g
section
variable {z:List Value} {w wk w':World} {b g:Nat} {s:ByteArray} {a a':Int × Bool} {cs:List Value}
theorem lQ.call (h:lQ z w wk b g s a cs) (hc:yM w' b s a') (hu:nN [b] wk w'):lQ z w w' b g s a' cs :=
 ⟨hc,h.bX.trans hu,h.bw.bX hu D2,h.rb.bX hu (by have:=h.hb;omega),h.hb,h.hg⟩
theorem lQ.put (h:lQ z w wk b g s a cs) (i:Nat) (u:Value):lQ z w (wk.setCell ⟨g,i,none⟩ u) b g s a (cs.set i u) :=
 ⟨h.b5.bE D2 i u,h.bX.xZ (p:=⟨g,i,none⟩) Pg u,h.bw.put i u,h.rb.bE (by have:=h.hg;omega) i u,h.hb,h.hg⟩
theorem lQ.ext (h:lQ z w wk b g s a cs) (hb:Below wk.heap.size wk w'):lQ z w w' b g s a cs:=⟨h.b5.ext hb,h.bX.trans (nN.lq [b] hb),h.bw.ext hb,h.rb.ext hb,h.hb,h.hg⟩
theorem lQ.alloc (h:lQ z w wk b g s a cs) (o:Obj):lQ z w (wk.alloc o) b g s a cs:=h.ext (ak (aj _) o)
theorem lQ.bE (h:lQ z w wk b g s a cs) {c:Nat} (hc:g < c) (i:Nat) (u:Value):lQ z w (wk.setCell ⟨c,i,none⟩ u) b g s a cs :=
 ⟨h.b5.bE D2 i u,h.bX.xZ (p:=⟨c,i,none⟩) Pg u,h.bw.bE J i u,h.rb.bE (by have:=h.hg;omega) i u,h.hb,h.hg⟩
theorem lQ.grown {row:Option Nat} (h:lQ z w wk b g s a cs) (hg:wk.grownBy w' row) (hr:∀q,row = some q→g < q):lQ z w w' b g s a cs :=
 ⟨h.b5.br (hg.block b h.b5.lt (by intro e;have:=hr b e.symm;have:=h.hb;have:=h.hg;omega)),h.bX.grown hg (fun q hq=>by have:=hr q hq;have:=h.hg;omega),h.bw.br (hg.block g h.bw.lt (by intro e;have:=hr g e.symm;omega)),h.rb.br (hg.block _ h.rb.lt (by intro e;have:=hr _ e.symm;have:=h.hg;omega)),h.hb,h.hg⟩
end
theorem adk:(Tryz.prog.info? 84).map (fun i=>(i.zero,i.size,i.bytes)) = some (some (.agg #[.string ⟨#[]⟩,.string ⟨#[]⟩,.int .i64 0]),3,40):=by kernel_rfl
theorem ae5:DL Tryz.prog 36 84 (.agg #[.string ⟨#[]⟩,.string ⟨#[]⟩,.int .i64 0]) 3 40:=⟨Tryz.underlying36,adk,rfl,J⟩
theorem aY.tnt {w w':World} {B:Nat} {xs:List iU} {ds:List Value} (h:aY w B xs ds []) (hs:w.heap.size≤w'.heap.size) {l:iU} (h1:(l.key.size:Int)≤1048576) (h2:(l.value.size:Int)≤1048576) (h3:bi l.al):aY w' B (xs++[l]) (ds++[.string l.key,.string l.value,.int .i64 l.al]) [] :=
 ⟨(h.rd.frame (fun b hb=>by cases hb) hs).append (.single (Q8 w' l ja ja h3)),List.nodup_nil,(fun b hb=>by cases hb),(fun b hb=>by cases hb)⟩
theorem OU (W:World) (e:TypeId) (size N:Nat) (hN:W.heap.size = N):(W.alloc (.cells #[] e)).ownsRow N e size (.slice (some ⟨N,0,none⟩) 0 0) 0 []:=by
 subst hN;exact World.ownsRow_made W #[] 0 (Nat.le_refl _) (Nat.zero_le _) S'
structure Cp (w wk:World) (cs zs:List Value):Prop where
 bw:oG wk w.heap.size cs
 rb:oG wk (w.heap.size+1) zs
 aM:Below w.heap.size w wk
section
variable {w wk w':World} {cs zs:List Value}
theorem Cp.new (w:World) (cs zs:List Value) (t t2:TypeId):Cp w ((w.alloc (.cells cs.toArray t)).alloc (.cells zs.toArray t2)) cs zs :=
 ⟨(oG.new w cs t).ext (ak (aj _) _),(by have:=oG.new (w.alloc (.cells cs.toArray t)) zs t2;rw [World.size_alloc] at this;exact this),ak (ak (aj _) _) _⟩
theorem Cp.ext (h:Cp w wk cs zs) (hb:Below wk.heap.size wk w'):Cp w w' cs zs:=⟨h.bw.ext hb,h.rb.ext hb,ah h.aM hb⟩
theorem Cp.put (h:Cp w wk cs zs) (i:Nat) (u:Value):Cp w (wk.setCell ⟨w.heap.size,i,none⟩ u) (cs.set i u) zs:=⟨h.bw.put i u,h.rb.bE J i u,aC h.aM (Nat.le_refl _) u⟩
theorem Cp.lt (h:Cp w wk cs zs):w.heap.size+1 < wk.heap.size:=h.rb.lt
end
theorem RE (x:az) (cs:List Value) (F:List Nat) (w:World) (h:rd w x cs F) (fb:(x.labels.length:Int)≤1048576) (dx:(x.aT.length:Int)≤1048576) :
 Calls Tryz.prog 161 #[.agg cs.toArray] w fun e w'=>∃cs F,e = .returned (.agg cs.toArray)∧am w' w.heap.size x cs F∧Below w.heap.size w w':=by
 obtain ⟨gu,gy,jw,kJ,kK,qU,aw,qp,hname,dO,vg,cb,uI,jq⟩:=iy h;subst aw;clear qp h;go_enter Tryz.func161,Tryz.ntmps161;have S0:=Cp.new w [.string x.name,.slice gu x.labels.length gy,.int .i64 x.ax,.int .i64 x.mem,.int .i64 x.ar,.slice kJ x.aT.length kK] [.string ⟨#[]⟩,.slice none 0 0,.int .i64 0,.int .i64 0,.int .i64 0,.slice none 0 0] 38 38;have K9:=I (OU ((w.alloc (.cells ([.string x.name,.slice gu x.labels.length gy,.int .i64 x.ax,.int .i64 x.mem,.int .i64 x.ar,.slice kJ x.aT.length kK]:List Value).toArray 38)).alloc (.cells ([.string ⟨#[]⟩,.slice none 0 0,.int .i64 0,.int .i64 0,.int .i64 0,.slice none 0 0]:List Value).toArray 38)) 57 2 (w.heap.size+1+1) fd)
 go_wp2_with (
 first
  | (at_builtin
     refine rW (o:=⟨some 6,_,_,_,_,_⟩) afn X X _ _ X _ (w.heap.size+1+1) _ 0 [] K9.out X x.labels gu gy _ (dO.ext (ak S0.aM _)) X J J fd ?_;intro v1 w1 Tq E1 K' Tr iZ pM Ts;go_must (obtain ⟨A1,c1,sU⟩:=mY iZ)
     go_must (subst sU)
     go_must (simp only [Nat.zero_add,List.nil_append] at iZ)
     go_must (have bk:Below (w.heap.size+1+1) ((w.alloc (.cells ([.string x.name,.slice gu x.labels.length gy,.int .i64 x.ax,.int .i64 x.mem,.int .i64 x.ar,.slice kJ x.aT.length kK]:List Value).toArray 38)).alloc (.cells ([.string ⟨#[]⟩,.slice none 0 0,.int .i64 0,.int .i64 0,.int .i64 0,.slice none 0 0]:List Value).toArray 38)) w1:=lS K9.out pM ((Below.refl _ _).alloc fd _) fd)
     go_must (have oa:=Cp.ext S0 (bk.mono fd))
     go_must (have Bs:jo w1 x.labels Tq E1:=K'.frame (fun b hb=>pM.block b (K'.lt b hb) (fun e=>by have h1:=dO.lt b (Tr b hb);have h2:=S0.aM.size;simp [Value.ownBlock,World.setCell] at e h2;omega)) pM.size)
     go_must (obtain ⟨A0,c0,G1,gN,jX⟩:=am.dd acO iZ Bs)
     go_must (simp only [Value.slice.injEq,true_and] at gN)
     go_must (obtain ⟨rfl,rfl⟩:=gN)
     go_must (have k1:=oa.bw.cell (i:=1) (u:=.slice gu x.labels.length gy) rfl)
     go_must (have f1:=oa.bw.fz 1)
     go_must (have l1:=oa.bw.lt)
     go_must (have Bt:=I (show ∀b∈G1,b < w1.heap.size from jX.lt))
     go_must (have S1:=oa.put 1 (.slice A1 x.labels.length c1))
     go_must (replace jX:=jX.setCell (p:=⟨w.heap.size,1,none⟩) ZA (.slice A1 x.labels.length c1))
     go_must (have m1:=S1.bw.cell (i:=5) (u:=.slice kJ x.aT.length kK) rfl)
     go_must (have z1:=oa.lt)
     go_must (have HM2:=I (OU (w1.setCell ⟨w.heap.size,1,none⟩ (.slice A1 x.labels.length c1)) 84 3 (w1.heap.size) fd)))
  | (at_builtin
     refine rW (o:=⟨some 11,_,_,_,_,_⟩) alP X X _ _ X _ (w1.heap.size) _ 0 [] HM2.out X x.aT kJ kK _ (jq.ext (ak S1.aM _)) X J J fd ?_;intro v2 w2 K8 E2 px iY cA eD K6;go_must (obtain ⟨A2,c2,eE⟩:=mY cA)
     go_must (subst eE)
     go_must (simp only [Nat.zero_add,List.nil_append] at cA)
     go_must (have av:Below (w1.heap.size) (w1.setCell ⟨w.heap.size,1,none⟩ (.slice A1 x.labels.length c1)) w2:=lS HM2.out eD ((Below.refl _ _).alloc fd _) fd)
     go_must (have n9:=Cp.ext S1 (av.mono fd))
     go_must (have Tt:jo w2 x.aT K8 E2:=px.frame (fun b hb=>eD.block b (px.lt b hb) (fun e=>by have h1:=jq.lt b (iY b hb);have h2:=S1.aM.size;simp [Value.ownBlock,World.setCell] at e h2;omega)) eD.size)
     go_must (obtain ⟨A0,c0,G2,gN,bN⟩:=am.dd aiH cA Tt)
     go_must (simp only [Value.slice.injEq,true_and] at gN)
     go_must (obtain ⟨rfl,rfl⟩:=gN)
     go_must (have k2:=n9.bw.cell (i:=5) (u:=.slice kJ x.aT.length kK) rfl)
     go_must (have f2:=n9.bw.fz 5)
     go_must (have l2:=n9.bw.lt)
     go_must (have S2:=n9.put 5 (.slice A2 x.aT.length c2))
     go_must (replace jX:=jX.ext (av.mono fd))
     go_must (replace jX:=jX.setCell (p:=⟨w.heap.size,5,none⟩) Pc (.slice A2 x.aT.length c2))
     go_must (replace bN:=bN.setCell (p:=⟨w.heap.size,5,none⟩) Pc (.slice A2 x.aT.length c2))
     go_must (have q0:=S2.bw.cell (i:=0) (u:=.string x.name) rfl)
     go_must (have q1:=S2.bw.cell (i:=1) (u:=.slice A1 x.labels.length c1) rfl)
     go_must (have q2:=S2.bw.cell (i:=2) (u:=.int .i64 x.ax) rfl)
     go_must (have q3:=S2.bw.cell (i:=3) (u:=.int .i64 x.mem) rfl)
     go_must (have q4:=S2.bw.cell (i:=4) (u:=.int .i64 x.ar) rfl)
     go_must (have q5:=S2.bw.cell (i:=5) (u:=.slice A2 x.aT.length c2) rfl)
     go_must (have r0:=S2.rb.cell (i:=0) (u:=.string ⟨#[]⟩) rfl)
     go_must (have r1:=S2.rb.cell (i:=1) (u:=.slice none 0 0) rfl)
     go_must (have r2:=S2.rb.cell (i:=2) (u:=.int .i64 0) rfl)
     go_must (have r3:=S2.rb.cell (i:=3) (u:=.int .i64 0) rfl)
     go_must (have r4:=S2.rb.cell (i:=4) (u:=.int .i64 0) rfl)
     go_must (have r5:=S2.rb.cell (i:=5) (u:=.slice none 0 0) rfl)
     go_must (have rf:=S2.rb.fz)
     go_must (have rl:=S2.rb.lt)
     go_must (have z2:=n9.lt)
     go_must (have y2:w1.heap.size≤w2.heap.size:=by have:=av.size;(try simp [World.setCell] at this);omega)))
 have gH:=I jX;have RZ:=I bN;have HS:=I S2;clear jX bN S1 oa S2 n9 S0;try dsimp only
 iterate 200 (first | go_step | skip)
 refine bodyPost_ret (v:=.agg #[.string x.name,.slice A1 x.labels.length c1,.int .i64 x.ax,.int .i64 x.mem,.int .i64 x.ar,.slice A2 x.aT.length c2]) (by simp [results,Tryz.results161,go_sem, *]) rfl ⟨[.string x.name,.slice A1 x.labels.length c1,.int .i64 x.ax,.int .i64 x.mem,.int .i64 x.ar,.slice A2 x.aT.length c2],(G1++G2),rfl,?_,?_⟩;rotate_left
 ·exact R'
 refine am.up (B':=w.heap.size+1+1) (fun x:az=>(x.name,x.labels,x.ax,x.mem,x.ar,x.aT)) ?_ J;refine am.cons (c1:=[.string x.name]) (cV _ x.name (rV hname)) ?_;refine am.b9 (B2:=w1.heap.size) (c1:=[.slice A1 x.labels.length c1]) (F1:=G1) ?_ ?_ J Bt.out
 ·exact ZD
 refine am.cons (c1:=[.int .i64 x.ax]) (jL _ x.ax vg) ?_;refine am.cons (c1:=[.int .i64 x.mem]) (jL _ x.mem cb) ?_;refine am.cons (c1:=[.int .i64 x.ar]) (jL _ x.ar uI) ?_;exact ZE
theorem Rs (x:nI) (cs:List Value) (F:List Nat) (w:World) (h:rd w x cs F) (fb:(x.labels.length:Int)≤1048576) (dx:(x.ag.length:Int)≤1048576) (yW:(x.ae.length:Int)≤1048576) (hv:∀y∈x.ag,(y.values.length:Int)≤1048576) :
 Calls Tryz.prog 162 #[.agg cs.toArray] w fun e w'=>∃cs F,e = .returned (.agg cs.toArray)∧am w' w.heap.size x cs F∧Below w.heap.size w w':=by
 have HV:=I hv;clear hv;obtain ⟨gu,gy,jw,oh,nT,wG,fA,fB,jY,aw,qp,hname,dO,vg,cb,BJ,mX,eG⟩:=dL h;subst aw;clear qp h;go_enter Tryz.func162,Tryz.ntmps162;have S0:=Cp.new w [.string x.name,.slice gu x.labels.length gy,.int .i64 x.ax,.int .i64 x.mem,.int .i64 x.aD,.slice oh x.ag.length nT,.slice fA x.ae.length fB] [.string ⟨#[]⟩,.slice none 0 0,.int .i64 0,.int .i64 0,.int .i64 0,.slice none 0 0,.slice none 0 0] 46 46;have K9:=I (OU ((w.alloc (.cells ([.string x.name,.slice gu x.labels.length gy,.int .i64 x.ax,.int .i64 x.mem,.int .i64 x.aD,.slice oh x.ag.length nT,.slice fA x.ae.length fB]:List Value).toArray 46)).alloc (.cells ([.string ⟨#[]⟩,.slice none 0 0,.int .i64 0,.int .i64 0,.int .i64 0,.slice none 0 0,.slice none 0 0]:List Value).toArray 46)) 57 2 (w.heap.size+1+1) fd)
 go_wp2_with (
  at_builtin
  refine rW (o:=⟨some 6,_,_,_,_,_⟩) afn X X _ _ X _ (w.heap.size+1+1) _ 0 [] K9.out X x.labels gu gy _ (dO.ext (ak S0.aM _)) X J J fd ?_;intro v1 w1 Tq E1 K' Tr iZ pM Ts;go_must (obtain ⟨A1,c1,sU⟩:=mY iZ)
  go_must (subst sU)
  go_must (simp only [Nat.zero_add,List.nil_append] at iZ)
  go_must (have bk:Below (w.heap.size+1+1) ((w.alloc (.cells ([.string x.name,.slice gu x.labels.length gy,.int .i64 x.ax,.int .i64 x.mem,.int .i64 x.aD,.slice oh x.ag.length nT,.slice fA x.ae.length fB]:List Value).toArray 46)).alloc (.cells ([.string ⟨#[]⟩,.slice none 0 0,.int .i64 0,.int .i64 0,.int .i64 0,.slice none 0 0,.slice none 0 0]:List Value).toArray 46)) w1:=lS K9.out pM ((Below.refl _ _).alloc fd _) fd)
  go_must (have oa:=Cp.ext S0 (bk.mono fd))
  go_must (have Bs:jo w1 x.labels Tq E1:=K'.frame (fun b hb=>pM.block b (K'.lt b hb) (fun e=>by have h1:=dO.lt b (Tr b hb);have h2:=S0.aM.size;simp [Value.ownBlock,World.setCell] at e h2;omega)) pM.size)
  go_must (obtain ⟨A0,c0,G1,gN,jX⟩:=am.dd acO iZ Bs)
  go_must (simp only [Value.slice.injEq,true_and] at gN)
  go_must (obtain ⟨rfl,rfl⟩:=gN)
  go_must (have k1:=oa.bw.cell (i:=1) (u:=.slice gu x.labels.length gy) rfl)
  go_must (have f1:=oa.bw.fz 1)
  go_must (have l1:=oa.bw.lt)
  go_must (have Bt:=I (show ∀b∈G1,b < w1.heap.size from jX.lt))
  go_must (have S1:=oa.put 1 (.slice A1 x.labels.length c1))
  go_must (replace jX:=jX.setCell (p:=⟨w.heap.size,1,none⟩) ZA (.slice A1 x.labels.length c1))
  go_must (have m1:=S1.bw.cell (i:=5) (u:=.slice oh x.ag.length nT) rfl)
  go_must (have z1:=oa.lt))
 go_wp2_with fail
 refine (PK x.ag _ _ _ _ (mX.ext S1.aM) dx HV.out).mono ?_;rintro e w2 ⟨A2,c2,G2,rfl,bN,av⟩;have n9:=S1.ext av;replace bN:=bN.mono (B':=w1.heap.size) avq;have k2:=n9.bw.cell (i:=5) (u:=.slice oh x.ag.length nT) rfl;have f2:=n9.bw.fz 5;have l2:=n9.bw.lt;have uS:=I (show ∀b∈G2,b < w2.heap.size from bN.lt);have S2:=n9.put 5 (.slice A2 x.ag.length c2);replace jX:=jX.ext av;replace jX:=jX.setCell (p:=⟨w.heap.size,5,none⟩) Pc (.slice A2 x.ag.length c2);replace bN:=bN.setCell (p:=⟨w.heap.size,5,none⟩) Pc (.slice A2 x.ag.length c2);have m2:=S2.bw.cell (i:=6) (u:=.slice fA x.ae.length fB) rfl;have z2:=n9.lt;have y2:w1.heap.size≤w2.heap.size:=by have:=av.size;(try simp [World.setCell] at this);omega
 have HM3:=I (OU (w2.setCell ⟨w.heap.size,5,none⟩ (.slice A2 x.ag.length c2)) 91 4 (w2.heap.size) fd)
 go_wp2_with (
  at_builtin
  refine rW (o:=⟨some 15,_,_,_,_,_⟩) abo X X _ _ X _ (w2.heap.size) _ 0 [] HM3.out X x.ae fA fB _ (eG.ext (ak S2.aM _)) X J J fd ?_;intro v3 w3 ds3 E3 Lb NW ed mq uN;go_must (obtain ⟨A3,c3,kj⟩:=mY ed)
  go_must (subst kj)
  go_must (simp only [Nat.zero_add,List.nil_append] at ed)
  go_must (have bj:Below (w2.heap.size) (w2.setCell ⟨w.heap.size,5,none⟩ (.slice A2 x.ag.length c2)) w3:=lS HM3.out mq ((Below.refl _ _).alloc fd _) fd)
  go_must (have AN:=Cp.ext S2 (bj.mono fd))
  go_must (have Tu:jo w3 x.ae ds3 E3:=Lb.frame (fun b hb=>mq.block b (Lb.lt b hb) (fun e=>by have h1:=eG.lt b (NW b hb);have h2:=S2.aM.size;simp [Value.ownBlock,World.setCell] at e h2;omega)) mq.size)
  go_must (obtain ⟨A0,c0,G3,gN,hO3⟩:=am.dd Zk ed Tu)
  go_must (simp only [Value.slice.injEq,true_and] at gN)
  go_must (obtain ⟨rfl,rfl⟩:=gN)
  go_must (have k3:=AN.bw.cell (i:=6) (u:=.slice fA x.ae.length fB) rfl)
  go_must (have f3:=AN.bw.fz 6)
  go_must (have l3:=AN.bw.lt)
  go_must (have S3:=AN.put 6 (.slice A3 x.ae.length c3))
  go_must (replace jX:=jX.ext (bj.mono fd))
  go_must (replace bN:=bN.ext (bj.mono fd))
  go_must (replace jX:=jX.setCell (p:=⟨w.heap.size,6,none⟩) Sb (.slice A3 x.ae.length c3))
  go_must (replace bN:=bN.setCell (p:=⟨w.heap.size,6,none⟩) Sb (.slice A3 x.ae.length c3))
  go_must (replace hO3:=hO3.setCell (p:=⟨w.heap.size,6,none⟩) Sb (.slice A3 x.ae.length c3))
  go_must (have q0:=S3.bw.cell (i:=0) (u:=.string x.name) rfl)
  go_must (have q1:=S3.bw.cell (i:=1) (u:=.slice A1 x.labels.length c1) rfl)
  go_must (have q2:=S3.bw.cell (i:=2) (u:=.int .i64 x.ax) rfl)
  go_must (have q3:=S3.bw.cell (i:=3) (u:=.int .i64 x.mem) rfl)
  go_must (have q4:=S3.bw.cell (i:=4) (u:=.int .i64 x.aD) rfl)
  go_must (have q5:=S3.bw.cell (i:=5) (u:=.slice A2 x.ag.length c2) rfl)
  go_must (have q6:=S3.bw.cell (i:=6) (u:=.slice A3 x.ae.length c3) rfl)
  go_must (have r0:=S3.rb.cell (i:=0) (u:=.string ⟨#[]⟩) rfl)
  go_must (have r1:=S3.rb.cell (i:=1) (u:=.slice none 0 0) rfl)
  go_must (have r2:=S3.rb.cell (i:=2) (u:=.int .i64 0) rfl)
  go_must (have r3:=S3.rb.cell (i:=3) (u:=.int .i64 0) rfl)
  go_must (have r4:=S3.rb.cell (i:=4) (u:=.int .i64 0) rfl)
  go_must (have r5:=S3.rb.cell (i:=5) (u:=.slice none 0 0) rfl)
  go_must (have r6:=S3.rb.cell (i:=6) (u:=.slice none 0 0) rfl)
  go_must (have rf:=S3.rb.fz)
  go_must (have rl:=S3.rb.lt)
  go_must (have z3:=AN.lt)
  go_must (have y3:w2.heap.size≤w3.heap.size:=by have:=bj.size;(try simp [World.setCell] at this);omega))
 have gH:=I jX;have RZ:=I bN;have gz:=I hO3;have HS:=I S3;clear jX bN hO3 S1 oa S2 n9 S3 AN S0;try dsimp only
 iterate 200 (first | go_step | skip)
 refine bodyPost_ret (v:=.agg #[.string x.name,.slice A1 x.labels.length c1,.int .i64 x.ax,.int .i64 x.mem,.int .i64 x.aD,.slice A2 x.ag.length c2,.slice A3 x.ae.length c3]) (by simp [results,Tryz.results162,go_sem, *]) rfl ⟨[.string x.name,.slice A1 x.labels.length c1,.int .i64 x.ax,.int .i64 x.mem,.int .i64 x.aD,.slice A2 x.ag.length c2,.slice A3 x.ae.length c3],(G1++(G2++G3)),rfl,?_,?_⟩;rotate_left
 ·exact R'
 refine am.up (B':=w.heap.size+1+1) (fun x:nI=>(x.name,x.labels,x.ax,x.mem,x.aD,x.ag,x.ae)) ?_ J;refine am.cons (c1:=[.string x.name]) (cV _ x.name (rV hname)) ?_;refine am.b9 (B2:=w1.heap.size) (c1:=[.slice A1 x.labels.length c1]) (F1:=G1) ?_ ?_ J Bt.out
 ·exact ZD
 refine am.cons (c1:=[.int .i64 x.ax]) (jL _ x.ax vg) ?_;refine am.cons (c1:=[.int .i64 x.mem]) (jL _ x.mem cb) ?_;refine am.cons (c1:=[.int .i64 x.aD]) (jL _ x.aD BJ) ?_;refine am.b9 (B2:=w2.heap.size) (c1:=[.slice A2 x.ag.length c2]) (F1:=G2) ?_ ?_ J uS.out
 ·exact ZE
 exact (by repeat (first | with_reducible exact gz.out | with_reducible refine am.setCell ?_ R9 _))
end Go.Proofs.YtjahcnjmjahbaaaGreat
