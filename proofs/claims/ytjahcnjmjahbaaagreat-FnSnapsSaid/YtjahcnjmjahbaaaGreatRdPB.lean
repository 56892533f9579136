/- ReadPodBytes, of the program and of the reference. No condition. -/
import Derived.Test.YtjahcnjmjahbaaaGreatRdPI
import Derived.Test.YtjahcnjmjahbaaaGreatOpsP
import Derived.Test.YtjahcnjmjahbaaaGreatHostNormP
namespace Go.Proofs.YtjahcnjmjahbaaaGreat
open Go.ChangeShapes Go.WideShapes Go.ChangeAt Go.RowKit
set_option linter.unusedVariables false
set_option linter.unusedSimpArgs false
set_option maxHeartbeats 4000000
set_option maxRecDepth 100000
theorem akz (s:ByteArray) (a:Int) (w:World) (hs:(s.size:Int)≤1048576) (ha:bi a) :
 Calls Tryz.prog 14 #[.string s,.int .i64 a] w fun e w'=>∃ds F,e = .returned (.tuple #[.agg ds.toArray,.int .i64 (CP s a).2])∧am w' w.heap.size (CP s a).1 ds F∧Below w.heap.size w w':=by
 have HR:=I (show CP s a = if (Dl s a).2 < 0 then (Lj,-1) else Dl s a from rfl);have HL:=I (fun b wq hq=>apz s b a wq hq hs);generalize Dl s a = q at *;generalize CP s a = R at *;go_enter Tryz.func14,Tryz.ntmps14;go_wp2_with fail
 have xF:zk ((w.alloc (.cells ([.string ⟨#[]⟩,.slice none 0 0,.int .i64 0,.int .i64 0,.int .i64 0,.slice none 0 0,.slice none 0 0]:List Value).toArray 46)).alloc (.cells #[.string s,.int .i64 a] 74)) (w.heap.size+1) s a:=⟨⟨_,by have:=heap_alloc_new (w.alloc (.cells ([.string ⟨#[]⟩,.slice none 0 0,.int .i64 0,.int .i64 0,.int .i64 0,.slice none 0 0,.slice none 0 0]:List Value).toArray 46)) (.cells #[.string s,.int .i64 a] 74);simpa using this⟩,ha⟩;refine (HL.out _ _ xF).mono ?_;rintro e w2 ⟨K8,F2,rfl,hO,hI,hu⟩;have cD:w.heap.size+1 < w2.heap.size:=sq hu.size;have mz:w.heap.size < w2.heap.size:=by omega
 have RB:=(oG.new w [.string ⟨#[]⟩,.slice none 0 0,.int .i64 0,.int .i64 0,.int .i64 0,.slice none 0 0,.slice none 0 0] 46).ext (w':=(w.alloc (.cells ([.string ⟨#[]⟩,.slice none 0 0,.int .i64 0,.int .i64 0,.int .i64 0,.slice none 0 0,.slice none 0 0]:List Value).toArray 46)).alloc (.cells #[.string s,.int .i64 a] 74)) (ak (aj _) _) |>.bX hu J;have HB:=I (((nN.lq [w.heap.size+1] (ak (ak (aj w) (.cells ([.string ⟨#[]⟩,.slice none 0 0,.int .i64 0,.int .i64 0,.int .i64 0,.slice none 0 0,.slice none 0 0]:List Value).toArray 46)) (.cells #[.string s,.int .i64 a] 74))).trans hu).aM (B:=w.heap.size) (fun y hy=>by simp only [List.mem_singleton] at hy;omega) (Nat.le_refl _));have HO:=I (hO.mono (B':=w.heap.size+1) S');have hR:=hO.rd;obtain ⟨dZ,eF,uU,jQ,jR,Et,dH,dI,qE,aw,hG,Dh,qZ,IW,IX,I4,C9,oN⟩:=dL hR;subst aw;obtain ⟨r0,r1,r2,r3,r4,r5,r6⟩:=mS RB;have rl:=RB.lt;have rf:=RB.fz;have da:=hI.c1;have ap:=hI.lt;have H2:=I hI;clear hO hu hI hR hG qZ C9 oN RB xF;by_cases hn:q.2 < 0
 ·have HF:=I (show R = (Lj,-1) by rw [HR.out,if_pos hn]);go_wp2_with fail
  refine (Lh s (w.heap.size+1) q.2 _ (H2.out.ext bs)).mono ?_;rw [show decide (q.2 < 0) = true by simp [hn]];rintro e w4 ⟨rfl,hw⟩;simp only [hw];clear hw w4;iterate 60 (first | go_step | skip)
  refine bodyPost_ret (v:=.tuple #[.agg #[.string ⟨#[]⟩,.slice none 0 0,.int .i64 0,.int .i64 0,.int .i64 0,.slice none 0 0,.slice none 0 0],.int .i64 (-1)]) (by simp [results,Tryz.results14,go_sem, *]) rfl ?_;rw [HF.out];have QX:=HB.out
  first
   | refine ⟨[.string ⟨#[]⟩,.slice none 0 0,.int .i64 0,.int .i64 0,.int .i64 0,.slice none 0 0,.slice none 0 0],[],rfl,?_,?_⟩
   | refine ⟨[.string ⟨#[]⟩,.slice none 0 0,.int .i64 0,.int .i64 0,.int .i64 0,.slice none 0 0,.slice none 0 0],rfl,⟨[],?_⟩,?_⟩
  ·exact am.asi _ _
  ·exact DW
 ·have HF:=I (show R = q by rw [HR.out,if_neg hn]);go_wp2_with fail
  refine (Lh s (w.heap.size+1) q.2 _ (H2.out.ext bs)).mono ?_;rw [show decide (q.2 < 0) = false by simp;omega];rintro e w4 ⟨rfl,hw⟩;simp only [hw];clear hw w4;iterate 60 (first | go_step | skip)
  go_region_with fail
  all_goals iterate 60 (first | go_step | skip)
  all_goals
   refine bodyPost_ret (v:=.tuple #[.agg #[.string q.1.name,.slice dZ q.1.labels.length eF,.int .i64 q.1.ax,.int .i64 q.1.mem,.int .i64 q.1.aD,.slice jQ q.1.ag.length jR,.slice dH q.1.ae.length dI],.int .i64 q.2]) (by simp [results,Tryz.results14,go_sem, *]) rfl ?_;rw [HF.out];have QX:=HB.out
   first
    | refine ⟨[.string q.1.name,.slice dZ q.1.labels.length eF,.int .i64 q.1.ax,.int .i64 q.1.mem,.int .i64 q.1.aD,.slice jQ q.1.ag.length jR,.slice dH q.1.ae.length dI],F2,rfl,?_,?_⟩
    | refine ⟨[.string q.1.name,.slice dZ q.1.labels.length eF,.int .i64 q.1.ax,.int .i64 q.1.mem,.int .i64 q.1.aD,.slice jQ q.1.ag.length jR,.slice dH q.1.ae.length dI],rfl,⟨F2,?_⟩,?_⟩
   ·refine am.mono (B:=w.heap.size+1) ?_ J;exact ZF
   ·exact DW
theorem aoK (s:ByteArray) (b:Nat) (a:Int) (hs:List az) (Ah:Option Addr) (ch:Nat) (Fh:List Nat) (A1:Option Addr) (l1 c1:Nat) (z2 z3 z4 z5:Int) (p:nI) (ps:List Value) (G:List Nat) (w:World) (h:zk w b s a) (eQ:(s.size:Int)≤1048576) (hH:Sl w hs Ah ch Fh) (hl:(hs.length:Int)≤1048576) (hb:∀y∈Fh,y≠b) (hp:rd w p ps G) :
 Calls Tryz.prog 34 #[.pointer (some ⟨b,0,none⟩),.agg ([.slice Ah hs.length ch,.slice A1 l1 c1,.int .i64 z2,.int .i64 z3,.int .i64 z4,.int .i64 z5]:List Value).toArray,.agg ps.toArray] w fun e w'=>e = .returned (.agg (ps++[Value.string (Bl hs (jC s hs.length a).1),Value.int .i64 (fG s (jC s hs.length a).2).1]).toArray)∧zk w' b s (fG s (jC s hs.length a).2).2∧nN [b] w w':=by
 have ap:=h.lt;have HM:=I (fun wq hq=>cL s b a hs.length wq hq eQ J);have HN:=I (fun wq hq=>FT s b (jC s hs.length a).2 wq hq eQ);have Ny:=vI s hs.length a J;have QV:=yt s (jC s hs.length a).2 eQ;obtain ⟨q,eq⟩:∃q,jC s hs.length a = q:=⟨_,rfl⟩;rw [eq] at HM HN Ny QV ⊢;clear eq;obtain ⟨k,a2⟩:=q;dsimp only at Ny HM HN QV ⊢;obtain ⟨n,en⟩:∃n,fG s a2 = n:=⟨_,rfl⟩;rw [en] at HN QV ⊢;clear en;obtain ⟨n1,n2⟩:=n;dsimp only at HN QV ⊢;obtain ⟨bY,bZ,iq,eU,eX,jV,bg,bn,dK,aw,hG,jW,dA,kQ,lg,lG,iO,bK⟩:=dL hp;subst aw;clear hp hG;have HS:=I h;clear h;by_cases hk:0 < k
 ·obtain ⟨j,rfl⟩:∃j:Nat,k = (j:Int)+1:=⟨(k - 1).toNat,J⟩;have hj:j < hs.length:=by omega
  have HF:=I (VL hj rfl);obtain ⟨bh,o,ck,Fk,rfl,o9,hbs,hr,bv,hc⟩:=Sl.get (α:=az) (A:=Ah) (c:=ch) hH hj;obtain ⟨jM,jO,sN,jE,jF,sO,aw,su,zM,qY,Gt,Gw,xg,qA⟩:=iy hr;subst aw;have q0:w.cell? ⟨bh,o+j * 6,none⟩ = some (.string hs[j].name):=by exact hc 0 _ rfl
  clear hc su hr;have El:=oG.new w [.slice (some ⟨bh,o,none⟩) hs.length ch,.slice A1 l1 c1,.int .i64 z2,.int .i64 z3,.int .i64 z4,.int .i64 z5] 29;have lh:=oG.new ((w.alloc (.cells ([.slice (some ⟨bh,o,none⟩) hs.length ch,.slice A1 l1 c1,.int .i64 z2,.int .i64 z3,.int .i64 z4,.int .i64 z5]:List Value).toArray 29)).alloc (.cells ([.string p.name,.slice bY p.labels.length bZ,.int .i64 p.ax,.int .i64 p.mem,.int .i64 p.aD,.slice eU p.ag.length eX,.slice bg p.ae.length bn]:List Value).toArray 46)) [.string ⟨#[]⟩,.slice none 0 0,.int .i64 0,.int .i64 0,.int .i64 0,.slice none 0 0,.slice none 0 0,.string ⟨#[]⟩,.int .i64 0] 48;have Di:=oG.new (((w.alloc (.cells ([.slice (some ⟨bh,o,none⟩) hs.length ch,.slice A1 l1 c1,.int .i64 z2,.int .i64 z3,.int .i64 z4,.int .i64 z5]:List Value).toArray 29)).alloc (.cells ([.string p.name,.slice bY p.labels.length bZ,.int .i64 p.ax,.int .i64 p.mem,.int .i64 p.aD,.slice eU p.ag.length eX,.slice bg p.ae.length bn]:List Value).toArray 46)).alloc (.cells ([.string ⟨#[]⟩,.slice none 0 0,.int .i64 0,.int .i64 0,.int .i64 0,.slice none 0 0,.slice none 0 0,.string ⟨#[]⟩,.int .i64 0]:List Value).toArray 48)) [.string p.name,.slice bY p.labels.length bZ,.int .i64 p.ax,.int .i64 p.mem,.int .i64 p.aD,.slice eU p.ag.length eX,.slice bg p.ae.length bn,.string ⟨#[]⟩,.int .i64 0] 48;simp only [World.size_alloc] at lh Di;go_enter Tryz.func34,Tryz.ntmps34;go_wp2_with fail
  refine (HM.out _ (HS.out.ext bs)).mono ?_;rintro e w1 ⟨rfl,i7,hu1⟩;have Nz:=(lh.ext bs).bX hu1 J;have sx:=Di.bX hu1 J;have ol:=sx.lt;have of:=sx.fz 7;have o7:=sx.cell (i:=7) (u:=.string ⟨#[]⟩) rfl;have KC1:=(El.ext bs).bX hu1 J;have c0:=KC1.cell (i:=0) (u:=.slice (some ⟨bh,o,none⟩) hs.length ch) rfl;have o4:=hb bh o9;have q0':=(World.cell?_of_block (a:=⟨bh,o+j * 6,none⟩) (hu1.block bh (by simp;omega) (by simpa using o4))).trans ((World.cell?_of_block ((show Below w.heap.size w _ from bs).block bh hbs)).trans q0);clear KC1 El q0;have NA:=sx.put 7 (.string hs[j].name);have xf:=Nz.bE (c:=w.heap.size+1+1+1) J 7 (.string hs[j].name);have fL:=i7.bE (c:=w.heap.size+1+1+1) J 7 (.string hs[j].name);have pZ:=((nN.lq [b] (show Below w.heap.size w _ from bs)).trans hu1).xZ (p:=⟨w.heap.size+1+1+1,7,none⟩) bz (.string hs[j].name);clear lh Di sx Nz i7 hb;go_wp2_with fail
  refine (HN.out _ fL).mono ?_;rintro e w3 ⟨rfl,TR,b8⟩;have vp:=xf.bX b8 J;have vq:=NA.bX b8 J;have HU:=I (pZ.trans b8);obtain ⟨k0,k1,k2,k3,k4,k5,k6,k7,k8⟩:=KY vq;have kf:=vq.fz;have kl:=vq.lt;obtain ⟨r0,r1,r2,r3,r4,r5,r6,r7,r8⟩:=KY vp;have rf:=vp.fz;have rl:=vp.lt;have YR:=I TR;clear xf NA fL pZ hu1 b8 vp vq TR;dsimp only;iterate 80 (first | go_step | skip)
  refine bodyPost_ret (v:=.agg #[.string p.name,.slice bY p.labels.length bZ,.int .i64 p.ax,.int .i64 p.mem,.int .i64 p.aD,.slice eU p.ag.length eX,.slice bg p.ae.length bn,.string hs[j].name,.int .i64 n1]) (by simp [results,Tryz.results34,go_sem, *]) rfl ?_;exact Iv
 ·obtain rfl:k = 0:=by omega
  have HF:=I (ZV (hs:=hs) (k:=0) J);have El:=oG.new w [.slice Ah hs.length ch,.slice A1 l1 c1,.int .i64 z2,.int .i64 z3,.int .i64 z4,.int .i64 z5] 29;have lh:=oG.new ((w.alloc (.cells ([.slice Ah hs.length ch,.slice A1 l1 c1,.int .i64 z2,.int .i64 z3,.int .i64 z4,.int .i64 z5]:List Value).toArray 29)).alloc (.cells ([.string p.name,.slice bY p.labels.length bZ,.int .i64 p.ax,.int .i64 p.mem,.int .i64 p.aD,.slice eU p.ag.length eX,.slice bg p.ae.length bn]:List Value).toArray 46)) [.string ⟨#[]⟩,.slice none 0 0,.int .i64 0,.int .i64 0,.int .i64 0,.slice none 0 0,.slice none 0 0,.string ⟨#[]⟩,.int .i64 0] 48;have Di:=oG.new (((w.alloc (.cells ([.slice Ah hs.length ch,.slice A1 l1 c1,.int .i64 z2,.int .i64 z3,.int .i64 z4,.int .i64 z5]:List Value).toArray 29)).alloc (.cells ([.string p.name,.slice bY p.labels.length bZ,.int .i64 p.ax,.int .i64 p.mem,.int .i64 p.aD,.slice eU p.ag.length eX,.slice bg p.ae.length bn]:List Value).toArray 46)).alloc (.cells ([.string ⟨#[]⟩,.slice none 0 0,.int .i64 0,.int .i64 0,.int .i64 0,.slice none 0 0,.slice none 0 0,.string ⟨#[]⟩,.int .i64 0]:List Value).toArray 48)) [.string p.name,.slice bY p.labels.length bZ,.int .i64 p.ax,.int .i64 p.mem,.int .i64 p.aD,.slice eU p.ag.length eX,.slice bg p.ae.length bn,.string ⟨#[]⟩,.int .i64 0] 48;simp only [World.size_alloc] at lh Di;go_enter Tryz.func34,Tryz.ntmps34;go_wp2_with fail
  refine (HM.out _ (HS.out.ext bs)).mono ?_;rintro e w1 ⟨rfl,i7,hu1⟩;have Nz:=(lh.ext bs).bX hu1 J;have sx:=Di.bX hu1 J;have ol:=sx.lt;have of:=sx.fz 7;have o7:=sx.cell (i:=7) (u:=.string ⟨#[]⟩) rfl;have NA:=sx;have xf:=Nz;have fL:=i7;have pZ:=(nN.lq [b] (show Below w.heap.size w _ from bs)).trans hu1;clear lh Di sx Nz i7 hb;go_wp2_with fail
  refine (HN.out _ fL).mono ?_;rintro e w3 ⟨rfl,TR,b8⟩;have vp:=xf.bX b8 J;have vq:=NA.bX b8 J;have HU:=I (pZ.trans b8);obtain ⟨k0,k1,k2,k3,k4,k5,k6,k7,k8⟩:=KY vq;have kf:=vq.fz;have kl:=vq.lt;obtain ⟨r0,r1,r2,r3,r4,r5,r6,r7,r8⟩:=KY vp;have rf:=vp.fz;have rl:=vp.lt;have YR:=I TR;clear xf NA fL pZ hu1 b8 vp vq TR;dsimp only;iterate 80 (first | go_step | skip)
  refine bodyPost_ret (v:=.agg #[.string p.name,.slice bY p.labels.length bZ,.int .i64 p.ax,.int .i64 p.mem,.int .i64 p.aD,.slice eU p.ag.length eX,.slice bg p.ae.length bn,.string ⟨#[]⟩,.int .i64 n1]) (by simp [results,Tryz.results34,go_sem, *]) rfl ?_;exact Iv
theorem i' {n:Int} (h:gh n):(VT n).length≤10:=bM n ⟨by have:=h.1;omega,by have:=h.2;omega⟩
theorem tw {t:ByteArray} (h:(t.size:Int)≤1048576):(ST t).length≤t.size+10:=iJ t J
theorem QQ {α:Type} {f:α→List UInt8} {g:α→Nat} {K c:Nat} : ∀{xs:List α},(∀x∈xs,(f x).length≤K * g x+c)→(xs.flatMap f).length≤K * (xs.map g).sum+c * xs.length
 | [],_=>by simp
 | x :: xs,h=>by
   have h1:=h x (List.mem_cons_self ..);have h2:=QQ (xs:=xs) (fun y hy=>h y (List.mem_cons_of_mem _ hy));simp only [List.flatMap_cons,List.length_append,List.map_cons,List.sum_cons,List.length_cons,Nat.mul_add,Nat.mul_one];omega
theorem Ng {α:Type} {f:α→List UInt8} {g:α→Nat} {K:Nat} {xs:List α} (h:∀x∈xs,(f x).length≤K * g x+K):(xs.flatMap f).length≤K * kL g xs:=by
 have:=QQ h;unfold kL;rw [Nat.mul_add];omega
theorem Ni (ls:List ao):LT ls = VT ls.length++ls.flatMap fun l=>ST l.key++ST l.value:=by
 show db (Fe ls) = _;unfold Fe;rw [sI];simp only [nW];rfl
theorem CU {α:Type} {xs:List α} (h:(xs.length:Int)≤1048576):gh xs.length:=⟨J,J⟩
theorem aGa {ls:List ao} (h:(kL ao.wt ls:Int)≤1048576):(LT ls).length≤10+20 * kL ao.wt ls:=by
 have h0:=gJ ao.wt ls;have h1:=i' (CU (xs:=ls) J);have h2:(ls.flatMap fun l=>ST l.key++ST l.value).length≤20 * kL ao.wt ls:=Ng fun l hl=>by
  have h3:=Bq (f:=ao.wt) hl;have e:l.wt = l.key.size+l.value.size:=rfl;have h4:=tw (t:=l.key) J;have h5:=tw (t:=l.value) J;rw [List.length_append];omega
 rw [Ni,List.length_append];omega
theorem aCR {h:az} (hr:Aj h = true):sD h.labels = true∧(0≤h.ax∧0≤h.mem)∧(1≤h.ar∧h.ar≤20)∧((h.aT.length:Int)≤4∧∀t∈h.aT,gh t.al):=by
 unfold Aj at hr;simp only [Bool.and_eq_true,decide_eq_true_eq] at hr;obtain ⟨⟨⟨⟨_,hl⟩,ht⟩,h5,h6⟩,h7,h8⟩:=hr;obtain ⟨t1,t2⟩:=eA ht;refine ⟨hl,⟨h5,h6⟩,⟨h7,h8⟩,t1,fun t hx=>?_⟩;have:=t2 t hx;unfold Dp at this;exact qv
theorem Nn {h:az} (hr:Aj h = true):HT h = ST h.name++(LT h.labels++(VT h.ax++(VT h.mem++(VT h.ar++(VT h.aT.length++h.aT.flatMap fun t=>ST t.key++(ST t.value++VT t.al)))))):=by
 show db (wS h) = _;unfold wS;rw [if_pos hr];unfold H8;rw [List.take_length,sI];unfold Oe MB;simp only [nW,List.append_assoc];rfl
theorem V8 {h:az} (ho:Nd h) (hw:(h.wt:Int)≤1048576):(HT h).length≤40 * h.wt+60:=by
 obtain ⟨hl,⟨h1,h2⟩,⟨h3,h4⟩,h5,h6⟩:=aCR ho.1;have e:h.wt = h.name.size+kL ao.wt h.labels+kL iU.wt h.aT:=rfl;have g1:=tw (t:=h.name) J;have g2:=aGa (ls:=h.labels) J;have g3:=i' ⟨h1,ho.2.1⟩;have g4:=i' ⟨h2,ho.2.2⟩;have g5:=i' (n:=h.ar) ⟨J,J⟩;have g6:=i' (CU (xs:=h.aT) J);have g7:(h.aT.flatMap fun t=>ST t.key++(ST t.value++VT t.al)).length≤30 * kL iU.wt h.aT:=Ng fun t ht=>by
  have k1:=Bq (f:=iU.wt) ht;have k2:t.wt = t.key.size+t.value.size:=rfl;have k3:=tw (t:=t.key) J;have k4:=tw (t:=t.value) J;have k5:=i' (h6 t ht);simp only [List.length_append];omega
 rw [Nn ho.1];simp only [List.length_append];omega
theorem aDz {p:nI} (hr:GU p = true):sD p.labels = true∧(0≤p.ax∧0≤p.mem)∧(0≤p.aD∧p.aD≤1000)∧((p.ag.length:Int)≤4∧∀t∈p.ag,gh t.op)∧((p.ae.length:Int)≤4∧∀t∈p.ae,gh t.al):=by
 unfold GU at hr;simp only [Bool.and_eq_true,decide_eq_true_eq] at hr;obtain ⟨⟨⟨⟨⟨_,hl⟩,hn⟩,ht⟩,h5,h6⟩,h7,h8⟩:=hr;obtain ⟨t1,t2⟩:=eA ht;obtain ⟨n1,n2⟩:=eA hn;refine ⟨hl,⟨h5,h6⟩,⟨h7,h8⟩,⟨n1,fun t hx=>?_⟩,t1,fun t hx=>?_⟩
 ·have:=n2 t hx;unfold uh at this;exact qv
 ·have:=t2 t hx;unfold Q5 at this;exact qv
theorem Nq {p:nI} (hr:GU p = true):PT p = ST p.name++(LT p.labels++(VT p.ax++(VT p.mem++(VT p.aD++((VT p.ag.length++p.ag.flatMap fun n=>ST n.key++(VT n.op++(VT n.values.length++n.values.flatMap ST)))++(VT p.ae.length++p.ae.flatMap fun t=>ST t.key++(VT (pQ t.equal)++(ST t.value++VT t.al)))))))):=by
 show db (Bg p) = _;unfold Bg;rw [if_pos hr];exact Ip
theorem V' {p:nI} (ho:CR p) (hw:(p.wt:Int)≤1048576):(PT p).length≤40 * p.wt+70:=by
 obtain ⟨hl,⟨h1,h2⟩,⟨h3,h4⟩,⟨h5,h6⟩,h7,h8⟩:=aDz ho.1;have e:p.wt = p.name.size+kL ao.wt p.labels+kL ba.wt p.ag+kL bH.wt p.ae:=rfl;have g1:=tw (t:=p.name) J;have g2:=aGa (ls:=p.labels) J;have g3:=i' ⟨h1,ho.2.1⟩;have g4:=i' ⟨h2,ho.2.2⟩;have g5:=i' (n:=p.aD) ⟨J,J⟩;have g6:=i' (CU (xs:=p.ag) J);have g8:=i' (CU (xs:=p.ae) J);have g7:(p.ag.flatMap fun n=>ST n.key++(VT n.op++(VT n.values.length++n.values.flatMap ST))).length≤40 * kL ba.wt p.ag:=Ng fun n hn=>by
  have k1:=Bq (f:=ba.wt) hn;have k2:n.wt = n.key.size+kL ByteArray.size n.values:=rfl;have k3:=tw (t:=n.key) J;have k4:=i' (h6 n hn);have k5:=gJ ByteArray.size n.values;have k6:=i' (CU (xs:=n.values) J);have k7:(n.values.flatMap ST).length≤10 * kL ByteArray.size n.values:=Ng fun v hv=>by
   have j1:=Bq (f:=ByteArray.size) hv;have j2:=tw (t:=v) J;omega
  simp only [List.length_append];omega
 have g9:(p.ae.flatMap fun t=>ST t.key++(VT (pQ t.equal)++(ST t.value++VT t.al))).length≤40 * kL bH.wt p.ae:=Ng fun t ht=>by
  have k1:=Bq (f:=bH.wt) ht;have k2:t.wt = t.key.size+t.value.size:=rfl;have k3:=tw (t:=t.key) J;have k4:=tw (t:=t.value) J;have k5:=i' (h8 t ht);have k6:=i' (n:=pQ t.equal) (by cases t.equal <;> exact ⟨by decide,by decide⟩);simp only [List.length_append];omega
 rw [Nq ho.1];simp only [List.length_append];omega
theorem aAc {x:aU} (G:cc x):mx x.Z:=⟨fun h hh=>aJ2 (Uu (G.gd h hh)),G.hs.imp fun {a b} h=>Uv h⟩
structure il (x:aU):Prop where
 h:∀h∈x.Z,h.ax≤9223372036854775807∧h.mem≤9223372036854775807
 p:∀p∈x.O,p.aS.ax≤9223372036854775807∧p.aS.mem≤9223372036854775807
theorem aDM {w:World} {x:aU} {cs:List Value} {F:List Nat} (h:rd w x cs F):il x:=by
 obtain ⟨A1,c1,F1,A2,c2,F2,_,_,h1,h2,_⟩:=aO h;refine ⟨fun h hh=>?_,fun p hp=>?_⟩
 ·obtain ⟨k,hk,rfl⟩:=List.getElem_of_mem hh;obtain ⟨_,_,_,_,_,_,_,hr,_,_⟩:=h1.get hk;obtain ⟨_,_,_,_,_,_,_,_,_,_,a,b,_⟩:=iy hr;exact ⟨by unfold bi at a;omega,by unfold bi at b;omega⟩
 ·obtain ⟨k,hk,rfl⟩:=List.getElem_of_mem hp;obtain ⟨_,_,_,_,_,_,_,hr,_,_⟩:=h2.get hk;obtain ⟨_,_,_,_,_,_,_,_,_,_,_,_,_,a,b,_⟩:=kE hr;exact ⟨by unfold bi at a;omega,by unfold bi at b;omega⟩
theorem aA7 {x:aU} (G:cc x) (N:il x):Nf x:=by
 have hw:=G.wt;unfold zL at hw;simp only [Bool.and_eq_true,decide_eq_true_eq] at hw;obtain ⟨⟨⟨a1,a2⟩,b1,b2⟩,c1,c2⟩:=hw;have n1:=G.n1;have n2:=G.n2;have h8:=G.h8;have rY:=G.rY;refine ⟨⟨⟨a1,J⟩,⟨b1,J⟩,⟨c1,J⟩,⟨J,J⟩,J,fun h hh=>⟨G.gd h hh,N.h h hh⟩⟩,J,fun p hp=>⟨⟨G.pm p hp,N.p p hp⟩,G.te p hp,?_⟩⟩;have:=G.td p hp;exact ⟨J,J⟩
theorem QR {x:aU} (h:iI x = true):db (JC x) = CT x:=by
 unfold JC;rw [if_pos h];unfold Ig;rw [List.take_length,sI];unfold RY zn;rw [List.take_length,nW,sI];unfold UR M8 M7 CT;simp only [nW,List.append_assoc];rfl
theorem CX {x:aU} (G:cc x) (N:il x):(CT x).length≤802000:=by
 have hw:=L0 G;have e:x.wt = kL az.wt x.Z+kL ai.wt x.O:=rfl;obtain ⟨⟨h1,h2,h3,h4,h5,h6⟩,h7,h8⟩:=aA7 G N;have g1:=i' h1;have g2:=i' h2;have g3:=i' h3;have g4:=i' h4;have g5:=i' (CU (xs:=x.Z) J);have g6:=i' (CU (xs:=x.O) J);have g7:(x.Z.flatMap HT).length≤40 * (x.Z.map az.wt).sum+60 * x.Z.length:=QQ fun h hh=>V8 (h6 h hh) (by have:=Bq (f:=az.wt) hh;omega);have g8:(x.O.flatMap (QP x.Z)).length≤40 * (x.O.map ai.wt).sum+90 * x.O.length:=QQ fun p hp=>by
  obtain ⟨k1,k2,k3⟩:=h8 p hp;have j1:=Bq (f:=ai.wt) hp;have j2:p.wt = p.aS.wt+p.on.size:=rfl;have j3:=V' k1 J;have j4:=i' k3;have j5:(VT (1+pK (iM p.on) x.Z)).length≤10:=by have i1:=Nc (p:=iM p.on) x.Z;exact i' ⟨J,J⟩
  unfold QP;simp only [List.length_append];omega
 unfold kL at e;unfold CT;simp only [List.length_append];omega
theorem Nr {n:Int} (h:0≤n):VT n≠[]:=by show db (jD n)≠[];rw [EG h];exact VM _
theorem CY {x:aU} (G:cc x):0 < (CT x).length:=by
 have hw:=G.wt;unfold zL at hw;simp only [Bool.and_eq_true,decide_eq_true_eq] at hw;have h:=List.length_pos_iff.2 (Nr hw.1.1.1);unfold CT;simp only [List.length_append];omega
theorem aEs {s:ByteArray} {t u:List UInt8} (h:db s = t++u):i8 s 0 t:=by
 show t <+: (db s).drop 0;rw [h];exact List.prefix_append ..
theorem QT {s:ByteArray} (hs:(s.size:Int)≤1048576) {x:aU} (G:cc x) (N:il x) {u:List UInt8} (h:db s = CT x++u):RQ s = (x,((CT x).length:Int)):=by
 have:=((aCO s hs (aAc G) _).2 ⟨aA7 G N,aEs h,rfl⟩).1;rw [this,Int.zero_add]
theorem aBI {s:ByteArray} (hs:(s.size:Int)≤1048576) {x:aU} (G:cc x) (N:il x) (h:db s = CT x):zh s = (x,true):=by
 have e:=QT hs G N (u:=[]) (by rw [h,List.append_nil]);have hz:(CT x).length = s.size:=by rw [← h];rfl
 unfold zh;rw [e,if_pos ⟨by rw [hz],(Cg x).2 G⟩]
theorem aBJ {s:ByteArray} (hs:(s.size:Int)≤1048576) {x:aU} (G:cc x) (N:il x) {u:List UInt8} (h:db s = CT x++u) (hu:0 < u.length):zh s = (nX,false):=by
 have e:=QT hs G N h;have hz:(CT x).length+u.length = s.size:=by rw [← List.length_append,← h];rfl
 unfold zh;rw [e,if_neg (fun hh=>by have:=hh.1;dsimp only at this;omega)]
theorem aJA {s:ByteArray} (hs:(s.size:Int)≤1048576) (h:(zh s).2 = true):cc (zh s).1∧il (zh s).1∧db s = CT (zh s).1:=by
 unfold zh at h ⊢;split
 ·rename_i hc;dsimp only;have G:=(Cg (RQ s).1).1 hc.2;obtain ⟨o,l,e⟩:=(aCO s hs (aAc G) (RQ s).2).1 ⟨rfl,by rw [hc.1];omega⟩;refine ⟨G,⟨fun h hh=>(o.1.2.2.2.2.2 h hh).2,fun p hp=>(o.2.2 p hp).1.2⟩,?_⟩;have l':CT (RQ s).1 <+: db s:=l;refine (List.IsPrefix.eq_of_length l' ?_).symm;have:(db s).length = s.size:=rfl;omega
 ·rename_i hc;rw [if_neg hc] at h;cases h
theorem aAy {s t:ByteArray} (hs:(s.size:Int)≤1048576) {x:aU} (G:cc x) (N:il x) (h:db s = CT x) {u:List UInt8} (ht:db s = db t++u) (hu:0 < u.length):(zh t).2 = false:=by
 cases hr:(zh t).2 with
 | false=>rfl
 | true =>
   exfalso;have hz:t.size+u.length = s.size:=by
    have:=congrArg List.length ht;rw [List.length_append] at this;exact this.symm
   obtain ⟨G2,N2,e⟩:=aJA (s:=t) J hr;have h1:=QT hs G2 N2 (u:=u) (by rw [ht,e]);have h2:=QT hs G N (u:=[]) (by rw [h,List.append_nil]);rw [h1] at h2;simp only [Prod.mk.injEq] at h2;have h3:(CT (zh t).1).length = t.size:=(by rw [← e];rfl);have h4:(CT x).length = s.size:=(by rw [← h];rfl);omega
theorem QU {x:aU} (G:cc x) (N:il x):0 < (JC x).size∧(JC x).size≤802000:=by
 have h1:=CX G N;have h2:=CY G;have e:(CT x).length = (JC x).size:=by rw [← QR ((Cg x).2 G)];rfl
 omega
theorem aDl {x:aU} (G:cc x) (N:il x):zh (JC x) = (x,true) :=
 aBI (by have:=(QU G N).2;omega) G N (QR ((Cg x).2 G))
theorem aEg {x:aU} (G:cc x) (N:il x):(zh (JC x++⟨#[0]⟩)).2 = false:=by
 rw [aBJ (x:=x) (u:=[0]) (by rw [ByteArray.size_append];have:=(QU G N).2;show ((_+1:Nat):Int)≤_;omega) G N (by rw [nW,QR ((Cg x).2 G)];rfl) (by decide)]
theorem aEh {x:aU} (G:cc x) (N:il x) {k:Nat} (hk:k < (JC x).size):(zh ((JC x).extract 0 k)).2 = false:=by
 refine aAy (s:=JC x) (u:=(db (JC x)).drop k) (by have:=(QU G N).2;omega) G N (QR ((Cg x).2 G)) ?_ ?_
 ·have e:db ((JC x).extract 0 k) = (db (JC x)).take k:=by
   unfold db;rw [ByteArray.data_extract,Array.toList_extract,List.extract_eq_take_drop];simp
  rw [e,List.take_append_drop]
 ·rw [List.length_drop,vl];omega
theorem aDm {h:az} (ho:Nd h) (hw:(h.wt:Int)≤20000) (b:UInt8):zf (⟨#[b]⟩++wS h) 1 = (h,1+((wS h).size:Int)):=by
 have hl:=V8 ho J;have hz:(HT h).length = (wS h).size:=rfl;have e:=(aA5 (⟨#[b]⟩++wS h) (by rw [ByteArray.size_append];show ((1+_:Nat):Int)≤_;omega) 1 (by decide) h (1+((HT h).length:Int))).2 ⟨ho,by show HT h <+: (db _).drop 1;rw [nW];exact List.prefix_refl _,rfl⟩;unfold zf;rw [e.1,if_neg bz];rw [hz]
theorem aEi {p:nI} (ho:CR p) (hw:(p.wt:Int)≤20000) (b:UInt8):CP (Bg p++⟨#[b]⟩) 0 = (p,((Bg p).size:Int)):=by
 have hl:=V' ho J;have hz:(PT p).length = (Bg p).size:=rfl;have e:=(aCL (Bg p++⟨#[b]⟩) (by rw [ByteArray.size_append];show ((_+1:Nat):Int)≤_;omega) 0 (by decide) p (0+((PT p).length:Int))).2 ⟨ho,by show PT p <+: (db _).drop 0;rw [nW];exact List.prefix_append ..,rfl⟩;unfold CP;rw [e.1,if_neg bz];rw [hz,Int.zero_add]
end Go.Proofs.YtjahcnjmjahbaaaGreat
