/- l15Values of the reference. No condition. -/
import Derived.Test.YtjahcnjmjahbaaaGreatRoomK
import Derived.Test.YtjahcnjmjahbaaaGreatMarkOn
namespace Go.Proofs.YtjahcnjmjahbaaaGreat
open Go.ChangeShapes Go.WideShapes Go.ChangeAt Go.RowKit
set_option linter.unusedVariables false
set_option linter.unusedSimpArgs false
set_option maxHeartbeats 8000000
set_option maxRecDepth 100000
theorem aEt (D:List ByteArray) {w:World} {B e g aM:Nat} (h:w.ownsRow B e 1 (.slice (some ⟨g,0,none⟩) D.length aM) D.length (D.map Value.string)) (hr:∀x∈D,rd w x [.string x] []):∃A c G,Value.slice (some ⟨g,0,none⟩) D.length aM = .slice A D.length c∧am w B D [.slice A D.length c] G:=by
 have cJ:∀D:List ByteArray,(∀x∈D,rd w x [.string x] [])→jo w D (D.map Value.string) []:=fun D=>by
  induction D with
  | nil=>intro _;exact ⟨rfl,rfl⟩
  | cons x D ih=>intro hD;exact ⟨[.string x],D.map Value.string,[],[],rfl,rfl,hD x (List.mem_cons_self ..),ih fun y hy=>hD y (List.mem_cons_of_mem _ hy)⟩
 exact K4
theorem aJU (xs:List ByteArray) (A:Option Addr) (c:Nat) (F:List Nat) (w:World) (h:Sl w xs A c F) (hl:(xs.length:Int)≤1048576) :
 Calls Tryz.prog 231 #[.slice A xs.length c] w fun e w'=>∃A' c' G,e = .returned (.slice A' (gN xs).length c')∧am w' w.heap.size (gN xs) [.slice A' (gN xs).length c'] G∧Below w.heap.size w w'∧eV w' w.heap.size 9 1 A' c':=by
 have rE:=I (show ∀x∈xs,∀w':World,rd w' x [.string x] [] from fun x hx w'=>by
  obtain ⟨k,hk,rfl⟩:=List.getElem_of_mem hx;obtain ⟨b,o,ck,Fk,_,_,_,hr,_,_⟩:=h.get hk;obtain ⟨h1,h2,h3⟩:=hr
  exact ⟨rfl,rfl,h3⟩)
 go_enter Tryz.func231,Tryz.ntmps231;go_wp2_with fail
 go_loopw [3,4] (fun v i wr=>∃k N g aM:Nat,k≤xs.length∧N≤k∧i = .int .i64 (k:Int)∧v = .slice (some ⟨g,0,none⟩) N aM∧Hid ((gN (xs.take k)).length = N)∧wr.ownsRow w.heap.size 9 1 (.slice (some ⟨g,0,none⟩) N aM) N ((gN (xs.take k)).map Value.string)∧Below w.heap.size w wr) (fun _ i _=>xs.length - (intOf i).toNat)
 case atStart=>exact ⟨0,0,w.heap.size,0,O,Nat.le_refl _,rfl,rfl,I rfl,D9 w 9 1 w.heap.size rfl,ak (aj _) _⟩
 case round =>
  obtain ⟨k,N,g,aM,hk,hNk,rfl,rfl,cU,bA,az⟩:=hrel;by_cases ap:k < xs.length
  ·obtain ⟨wo,hwo⟩:∃wo,wo = wr:=⟨_,rfl⟩;subst hwo;obtain ⟨b,o,ck,Fk,hA,hbG,hbs,aJe,_,hcells⟩:=Sl.get h ap;subst hA;have ee:gN (xs.take (k+1)) = eZ blt xs[k] (gN (xs.take k)):=(by unfold gN;rw [List.take_succ_eq_append_getElem ap,EU]);obtain ⟨y,hy⟩:∃y,xs[k] = y:=⟨_,rfl⟩;rw [hy] at aJe ee;obtain ⟨ax,_,_⟩:=aJe;subst ax;have k0:wo.cell? ⟨b,o+k,none⟩ = some (.string y):=r' az (by have:=hcells 0 _ rfl;simpa [show bk.size ByteArray = 1 from rfl] using this) hbs;have Jf:=I ee;clear hcells hy ee;generalize gN (xs.take k) = SS at *;obtain ⟨kv,et,mU,hgc⟩:=IE bA;have PV:w.heap.size≤wo.heap.size:=az.size;have ff:b < wo.heap.size:=O;have lM:=I hgc;have im:=I bA;have fi:=I az;clear hgc bA az;go_wp2_with fail
   go_loopw [5] (fun j wr=>∃(s1 s2:List ByteArray) (jj:Nat),Hid (SS = s1++s2)∧j = .int .i64 (jj:Int)∧Hid (s1.length = jj)∧Hid (∀z∈s1,blt z y = true)∧Below wo.heap.size wo wr) (fun j _=>N - (intOf j).toNat)
   case atStart=>exact ⟨[],SS,0,I rfl,rfl,I rfl,I (fun z hz=>by cases hz),aj _⟩
   case round =>
    obtain ⟨s1,s2,jj,HE,rfl,HJ,HN,bS⟩:=hrel;have mc:∀bq oq u,wo.cell? ⟨bq,oq,none⟩ = some u→bq < wo.heap.size→wr.cell? ⟨bq,oq,none⟩ = some u:=fun bq oq u h1 h2=>(bS.cell (p:=⟨bq,oq,none⟩) h2).trans h1;replace k0:=mc _ _ _ k0 ff;have MC:=I mc;have px:wo.heap.size≤wr.heap.size:=bS.size;have nx:b < wr.heap.size:=O;have l4:g < wr.heap.size:=O;clear mc;cases s2 with
    | nil =>
      have fX:jj = N:=(by have e1:=HE.out;have e2:=cU.out;have e3:=HJ.out;rw [e1,List.append_nil] at e2;omega);have py:N≤jj:=O;have pA:decide ((jj:Int) < (N:Int)) = false:=(by simp;omega);have pB:decide (jj < N) = false:=(by simp;omega);clear fX;have HI:=I (show eZ blt y (SS) = s1++y :: [] by rw [HE.out];exact On s1 HN.out);go_wp2_with fail
      refine aF wr U' U' (aj _) ?_
      repeat ((first | refine aG Z ?_ | refine aH _ Z d' ?_);simp only [Act.put,pz])
      refine aN ?_;intro wm hn;replace hn:=hn.out;have i6:Below wo.heap.size wo wm:=ah bS hn;have i7:g < wm.heap.size:=(by have:=hn.size;omega);have i8:b < wm.heap.size:=(by have:=hn.size;omega);replace k0:=r' hn k0 eE;clear bS hn;obtain ⟨bS,nx,l4⟩:Below wo.heap.size wo wm∧b < wm.heap.size∧g < wm.heap.size:=⟨i6,i8,i7⟩;clear i6 i8 i7;go_wp2_with fail
      refine aF wm U' U' (aj _) ?_
      repeat ((first | refine aG Z ?_ | refine aH _ Z d' ?_);simp only [Act.put,pz])
      refine aN ?_;intro wn hn;replace hn:=hn.out;have bE:Below wo.heap.size wo wn:=ah bS hn;have lV:=I (show Below w.heap.size w wn from ah fi.out bE);have RJ:=mG im.out bE;obtain ⟨_,eT,apy,V4⟩:=IE RJ
      have eJ:=I (show ∀q u,((s1).map Value.string)[q]? = some u→wn.cell? ((⟨g,0,none⟩:Addr).add q) = some u from fun q u hu=>by
       rw [Addr.add_lit,Nat.zero_add];refine V4 q u ?_
       rw [HE.out,List.map_append,List.getElem?_append_left (List.getElem?_eq_some_iff.1 hu).1];exact hu)
      have Gn:=I (show ∀q u,((([]:List ByteArray)).map Value.string)[q]? = some u→wn.cell? ⟨g,jj+q,none⟩ = some u from fun q u hu=>by
       refine V4 (jj+q) u ?_
       rw [HE.out,List.map_append,List.getElem?_append_right B7,List.length_map,HJ.out,Nat.add_sub_cancel_left];exact hu)
      have cC:jj+(([]:List ByteArray)).length = N:=(by have e1:=congrArg List.length HE.out;have e2:=cU.out;have e3:=HJ.out;rw [List.length_append] at e1;omega);have ov:jj≤N:=O;have oM:jj≤aM:=O;replace k0:=r' hn k0 eE;have mZ:b < wn.heap.size:=(by have:=hn.size;omega);have jK:=I cC;have kb:=I bE;clear RJ V4 cC bE;go_wp2_with fail
      refine zU wn 12 U' U' (aj _) ?_;refine YU (fun a0 a' w'=>∃(g9 p9:Nat) (dk dl dm dp dq dr dt d9 eO eR:Value),a' = (Act.put (Act.put (Act.put (Act.put (Act.put (Act.put (Act.put (Act.put (Act.put (Act.put (Act.put (Act.put a0 (some 46) (dk)) (some 47) (dl)) (some 48) (dm)) (some 49) (dp)) (some 50) (dq)) (some 51) (dr)) (some 52) (dt)) (some 53) (d9)) (some 54) (eO)) (some 55) (eR)) (some 56) (.slice (some ⟨g9,0,none⟩) (jj+1) p9)) (some 6) (.slice (some ⟨g9,0,none⟩) (jj+1) p9))∧Below wn.heap.size wn w'∧World.ownsRow w' wn.heap.size 9 1 (.slice (some ⟨g9,0,none⟩) (jj+1) p9) (jj+1) (((s1).map Value.string)++[.string y])) ?_ ?_;rotate_left
      ·exact Lh
      intro a' w7 fq;obtain ⟨g9,p9,dk,dl,dm,dp,dq,dr,dt,d9,eO,eR,rfl,bN,nK⟩:=fq;try simp only [Act.put,pz]
      have de:∃A0:Addr,(if aM = jj then some (⟨g,0,none⟩:Addr) else some ⟨g,jj,none⟩) = some A0∧Hid (A0.block = g∧∀q u,((([]:List ByteArray)).map Value.string)[q]? = some u→w7.cell? (A0.add q) = some u):=by exact L0
      obtain ⟨A0,hA0,asg⟩:=de;have bz:N - jj = (([]:List ByteArray)).length:=(by have:=jK.out;omega);have mR:=I bz;clear bz
      go_wp2_with (
       at_builtin
       go_must (refine xW qw Z _ _ Z w7 wn.heap.size _ _ _ nK Z A0 0 (aM - jj) ((([]:List ByteArray)).map Value.string) Z Z asg.out.2 (fun u hu=>by obtain ⟨z0,_,rfl⟩:=List.mem_map.1 hu;rfl) O O lz ?_)
       intro v8 w8 Le dg li;rw [show jj+1+0 = N+1 by omega] at Le;obtain ⟨g8,p8,hv8,aJs,aJt,aJu⟩:=wW Le O
       subst hv8)
      exact LD
    | cons z s2 =>
      have fX:jj < N:=(by have e1:=congrArg List.length HE.out;have e2:=cU.out;have e3:=HJ.out;rw [List.length_append,List.length_cons] at e1;omega);have z0:wr.cell? ⟨g,jj,none⟩ = some (.string z):=MC.out _ _ _ (lM.out jj _ RV) et;have pA:decide ((jj:Int) < (N:Int)) = true:=(by simp;omega);cases hL:Op.bytesLess z.toList y.toList with
      | true =>have HL:=I (show blt z y = true from hL);exact Lw
      | false =>
        have HL:=I (show blt z y = false from hL);go_wp2_with fail
        refine aF wr U' U' (aj _) ?_
        repeat ((first | refine aG Z ?_ | refine aH _ Z d' ?_);simp only [Act.put,pz])
        refine aN ?_;intro wm hn;replace hn:=hn.out;have i6:Below wo.heap.size wo wm:=ah bS hn;have i7:g < wm.heap.size:=(by have:=hn.size;omega);have i8:b < wm.heap.size:=(by have:=hn.size;omega);replace k0:=r' hn k0 eE;replace z0:=r' hn z0 r9;clear bS hn;obtain ⟨bS,nx,l4⟩:Below wo.heap.size wo wm∧b < wm.heap.size∧g < wm.heap.size:=⟨i6,i8,i7⟩;clear i6 i8 i7;clear hL;cases hE:(z.toList == y.toList) with
        | true =>
          have HI:=I (show eZ blt y (SS) = SS by rw [HE.out];exact Oq s1 s2 HN.out HL.out (by rw [Ce hE];exact CF.o0 y));go_wp2_with fail
          refine aF wm U' U' (aj _) ?_
          repeat ((first | refine aG Z ?_ | refine aH _ Z d' ?_);simp only [Act.put,pz])
          refine aN ?_;intro wn hn;replace hn:=hn.out;exact I8
        | false =>
          have HG:=I (show blt y z = true by
           cases hh:blt y z with
           | true=>rfl
           | false=>have:=CF.Oj z y HL.out hh;rw [this] at hE;simp at hE)
          have HI:=I (show eZ blt y (SS) = s1++y :: (z :: s2) by rw [HE.out];exact Oo s1 s2 HN.out HL.out HG.out);go_wp2_with fail
          refine aF wm U' U' (aj _) ?_
          repeat ((first | refine aG Z ?_ | refine aH _ Z d' ?_);simp only [Act.put,pz])
          refine aN ?_;intro wn hn;replace hn:=hn.out;clear hE;have bE:Below wo.heap.size wo wn:=ah bS hn;have lV:=I (show Below w.heap.size w wn from ah fi.out bE);have RJ:=mG im.out bE;obtain ⟨_,eT,apy,V4⟩:=IE RJ
          have eJ:=I (show ∀q u,((s1).map Value.string)[q]? = some u→wn.cell? ((⟨g,0,none⟩:Addr).add q) = some u from fun q u hu=>by
           rw [Addr.add_lit,Nat.zero_add];refine V4 q u ?_
           rw [HE.out,List.map_append,List.getElem?_append_left (List.getElem?_eq_some_iff.1 hu).1];exact hu)
          have Gn:=I (show ∀q u,((z :: s2).map Value.string)[q]? = some u→wn.cell? ⟨g,jj+q,none⟩ = some u from fun q u hu=>by
           refine V4 (jj+q) u ?_
           rw [HE.out,List.map_append,List.getElem?_append_right B7,List.length_map,HJ.out,Nat.add_sub_cancel_left];exact hu)
          have cC:jj+(z :: s2).length = N:=(by have e1:=congrArg List.length HE.out;have e2:=cU.out;have e3:=HJ.out;rw [List.length_append] at e1;omega);have ov:jj≤N:=O;have oM:jj≤aM:=O;have PZ:¬aM = jj:=O;replace k0:=r' hn k0 eE;have mZ:b < wn.heap.size:=(by have:=hn.size;omega);have jK:=I cC;have kb:=I bE;clear RJ V4 cC bE;go_wp2_with fail
          refine zU wn 12 U' U' (aj _) ?_;refine YU (fun a0 a' w'=>∃(g9 p9:Nat) (dk dl dm dp dq dr dt d9 eO eR:Value),a' = (Act.put (Act.put (Act.put (Act.put (Act.put (Act.put (Act.put (Act.put (Act.put (Act.put (Act.put (Act.put a0 (some 46) (dk)) (some 47) (dl)) (some 48) (dm)) (some 49) (dp)) (some 50) (dq)) (some 51) (dr)) (some 52) (dt)) (some 53) (d9)) (some 54) (eO)) (some 55) (eR)) (some 56) (.slice (some ⟨g9,0,none⟩) (jj+1) p9)) (some 6) (.slice (some ⟨g9,0,none⟩) (jj+1) p9))∧Below wn.heap.size wn w'∧World.ownsRow w' wn.heap.size 9 1 (.slice (some ⟨g9,0,none⟩) (jj+1) p9) (jj+1) (((s1).map Value.string)++[.string y])) ?_ ?_;rotate_left
          ·exact Lh
          intro a' w7 fq;obtain ⟨g9,p9,dk,dl,dm,dp,dq,dr,dt,d9,eO,eR,rfl,bN,nK⟩:=fq;try simp only [Act.put,pz]
          have bz:N - jj = (z :: s2).length:=(by have:=jK.out;omega);have mR:=I bz;clear bz
          go_wp2_with (
           at_builtin
           go_must (refine xW qw Z _ _ Z w7 wn.heap.size _ _ _ nK Z ⟨g,jj,none⟩ (N - jj) (aM - jj) ((z :: s2).map Value.string) Z PC (fun q u hu=>by rw [Addr.add_lit];exact (bN.cell (p:=⟨g,jj+q,none⟩) eT).trans (Gn.out q u hu)) (fun u hu=>by obtain ⟨z0,_,rfl⟩:=List.mem_map.1 hu;rfl) O O lz ?_)
           intro v8 w8 Le dg li;rw [show jj+1+(N - jj) = N+1 by omega] at Le;obtain ⟨g8,p8,hv8,aJs,aJt,aJu⟩:=wW Le O
           subst hv8)
          exact LD
  ·have bz:k = xs.length:=O;subst bz;rw [List.take_length] at bA cU;rw [← cU.out] at bA;obtain ⟨A4,c4,G4,hv4,hO4⟩:=aEt (gN xs) bA (fun x hx=>rE.out x (aA4 hx) wr);rw [cU.out] at hv4;simp only [Value.slice.injEq,true_and] at hv4;obtain ⟨vM,eA⟩:=hv4;subst vM eA;have kR:=I hO4;have lW:=I (eV.oJ bA (Nat.le_refl _));clear bA hO4;go_wp2;go_ret
   exact ⟨some ⟨g,0,none⟩,aM,G4,by rw [cU.out];try rfl,kR.out,az,lW.out⟩
theorem aAw (xs:List ByteArray) (A:Option Addr) (c:Nat) (F:List Nat) (w:World) (h:Sl w xs A c F) (hl:(xs.length:Int)≤1048576) :
 Calls Tryz.prog 231 #[.slice A xs.length c] w fun e w'=>∃A' c' G,e = .returned (.slice A' (gN xs).length c')∧am w' w.heap.size (gN xs) [.slice A' (gN xs).length c'] G∧Below w.heap.size w w' :=
 (aJU xs A c F w h hl).mono fun _ _ ⟨A',c',G,a,b,d,_⟩=>⟨A',c',G,a,b,d⟩
def EA (x:aU) (p:nI) (h:ba):Bool:=oH h.name x p == 0
def Ar (x:aU) (p:nI) (hs:List ba):List ByteArray:=(hs.filter (EA x p)).map ba.name
theorem YM {x:aU} {p:nI} {hs:List ba} {k:Nat} (h:k < hs.length) (hp:EA x p hs[k] = true):Ar x p (hs.take (k+1)) = Ar x p (hs.take k)++[hs[k].name]:=by
 unfold Ar;rw [List.take_succ_eq_append_getElem h,List.filter_append,List.map_append];simp [hp]
theorem W4 {x:aU} {p:nI} {hs:List ba} {k:Nat} (h:k < hs.length) (hp:EA x p hs[k] = false):Ar x p (hs.take (k+1)) = Ar x p (hs.take k):=by
 unfold Ar;rw [List.take_succ_eq_append_getElem h,List.filter_append,List.map_append];simp [hp]
theorem LY (x:aU) (p:nI) (hs:List ba):(Ar x p hs).length≤hs.length:=by unfold Ar;rw [List.length_map];exact List.length_filter_le _ _
theorem afG (x:aU) (p:nI) (hs:List ba) (k:Nat):(Ar x p (hs.take k)).length≤k:=Nat.le_trans (LY _ _ _) RO
theorem aY.Rp {w:World} {B:Nat} {xs:List ByteArray} {ds:List Value} {s:ByteArray} (h:aY w B xs ds []) (hs:(s.size:Int)≤9223372036854775807):aY w B (xs++[s]) (ds++[.string s]) [] :=
 ⟨h.rd.append (.single (d7 w s hs)),List.nodup_nil,(fun b hb=>by cases hb),(fun b hb=>by cases hb)⟩
theorem Zu (x:aU) (p:nI) (cs ps:List Value) (F G:List Nat) (w:World) (h:rd w x cs F) (h':rd w p ps G) (hw:(x.wt:Int)≤1048576) (eC:(p.wt:Int)≤1048576) :
 Calls Tryz.prog 154 #[.agg cs.toArray,.agg ps.toArray] w fun e w'=>∃A c G,e = .returned (.slice A (Ar x p x.aa).length c)∧am w' w.heap.size (Ar x p x.aa) [.slice A (Ar x p x.aa).length c] G∧Below w.heap.size w w':=by
 have ga:x.wt = kL ba.wt x.aa+kL ag.wt x.J:=rfl;have b5:(x.aa.length:Int)≤1048576:=by have:=gJ ba.wt x.aa;omega
 have HW:=I hw;have Uc:=I eC;clear hw eC ga;have hr:=h;have cj:=h';obtain ⟨bG,bD,fQ,dn,bW,jg,ax,hF,bQ,dM,hnext,aV,aP,aW⟩:=aO hr;obtain ⟨bY,bZ,iq,eU,eX,jV,bg,bn,dK,jU,hG,jW,dA,kQ,lg,lG,iO,bK⟩:=dL cj;subst ax jU;clear hF hG hr cj;go_enter Tryz.func154,Tryz.ntmps154;go_wp2_with fail
 obtain ⟨w0,hw0⟩:∃w0,(w.alloc (.cells #[.slice bG x.aa.length bD,.slice dn x.J.length bW,.int .i64 x.next,.int .i64 x.weights.pack,.int .i64 x.weights.af,.int .i64 x.weights.al] 29)).alloc (.cells #[.string p.name,.slice bY p.labels.length bZ,.int .i64 p.aw,.int .i64 p.mem,.int .i64 p.av,.slice eU p.ai.length eX,.slice bg p.ae.length bn] 46) = w0:=⟨_,rfl⟩;try rw [hw0]
 have c0:w0.cell? ⟨w.heap.size,0,none⟩ = some (.slice bG x.aa.length bD):=by rw [← hw0,World.cell?_of_block (heap_alloc_old _ _ S'),cell_of_row _ _ _ _ _ _ (heap_alloc_new w _)];rfl
 have c1:w0.cell? ⟨w.heap.size,1,none⟩ = some (.slice dn x.J.length bW):=by rw [← hw0,World.cell?_of_block (heap_alloc_old _ _ S'),cell_of_row _ _ _ _ _ _ (heap_alloc_new w _)];rfl
 have c2:w0.cell? ⟨w.heap.size,2,none⟩ = some (.int .i64 x.next):=by rw [← hw0,World.cell?_of_block (heap_alloc_old _ _ S'),cell_of_row _ _ _ _ _ _ (heap_alloc_new w _)];rfl
 have c3:w0.cell? ⟨w.heap.size,3,none⟩ = some (.int .i64 x.weights.pack):=by rw [← hw0,World.cell?_of_block (heap_alloc_old _ _ S'),cell_of_row _ _ _ _ _ _ (heap_alloc_new w _)];rfl
 have c4:w0.cell? ⟨w.heap.size,4,none⟩ = some (.int .i64 x.weights.af):=by rw [← hw0,World.cell?_of_block (heap_alloc_old _ _ S'),cell_of_row _ _ _ _ _ _ (heap_alloc_new w _)];rfl
 have c5:w0.cell? ⟨w.heap.size,5,none⟩ = some (.int .i64 x.weights.al):=by rw [← hw0,World.cell?_of_block (heap_alloc_old _ _ S'),cell_of_row _ _ _ _ _ _ (heap_alloc_new w _)];rfl
 have d0:w0.cell? ⟨w.heap.size+1,0,none⟩ = some (.string p.name):=by rw [← hw0];simp
 have d1:w0.cell? ⟨w.heap.size+1,1,none⟩ = some (.slice bY p.labels.length bZ):=by rw [← hw0];simp
 have d2:w0.cell? ⟨w.heap.size+1,2,none⟩ = some (.int .i64 p.aw):=by rw [← hw0];simp
 have d3:w0.cell? ⟨w.heap.size+1,3,none⟩ = some (.int .i64 p.mem):=by rw [← hw0];simp
 have d4:w0.cell? ⟨w.heap.size+1,4,none⟩ = some (.int .i64 p.av):=by rw [← hw0];simp
 have d5:w0.cell? ⟨w.heap.size+1,5,none⟩ = some (.slice eU p.ai.length eX):=by rw [← hw0];simp
 have d6:w0.cell? ⟨w.heap.size+1,6,none⟩ = some (.slice bg p.ae.length bn):=by rw [← hw0];simp
 have jp:Below w.heap.size w w0:=by rw [← hw0];exact ak (ak (aj _) _) _
 have gd:w0.heap.size = w.heap.size+1+1:=by rw [← hw0];simp
 have ce:w.heap.size < w0.heap.size:=by omega
 have cM:w.heap.size+1 < w0.heap.size:=by omega
 have Xs:=I gd;clear hw0 gd;go_loopw [5,12] (fun v i wr=>∃(k:Nat) (ds:List Value),k≤x.aa.length∧i = .int .i64 k∧wr.ownsRow w0.heap.size 9 1 v (Ar x p (x.aa.take k)).length ds∧aY w w0.heap.size (Ar x p (x.aa.take k)) ds []∧Below w0.heap.size w0 wr) (fun _ i _=>x.aa.length - (intOf i).toNat)
 case atStart =>exact Ki
 case round =>
  obtain ⟨k,ds,hk,rfl,aR,fo,az⟩:=hrel;by_cases ap:k < x.aa.length
  ·obtain ⟨b,o,ck,Fk,rfl,o9,hbs,hr,br,hc⟩:=Sl.get (α:=ba) (A:=bG) (c:=bD) bQ ap;obtain ⟨jM,jO,sN,jE,jF,sO,ax,su,zM,qY,Gt,Gw,xg,qA⟩:=iy hr;subst ax;obtain ⟨q0,q1,q2,q3,q4,q5⟩:=lb 6 hc;clear hc;have bF:Below w.heap.size w wr:=ah jp (az.mono O);replace q0:=r' bF q0 hbs;replace q1:=r' bF q1 hbs;replace q2:=r' bF q2 hbs;replace q3:=r' bF q3 hbs;replace q4:=r' bF q4 hbs;replace q5:=r' bF q5 hbs;have WU:b < wr.heap.size:=(by have:=bF.size;omega);have hK:=(ay az).1;replace c0:=(hK _ _ ce).trans c0;replace c1:=(hK _ _ ce).trans c1;replace c2:=(hK _ _ ce).trans c2;replace c3:=(hK _ _ ce).trans c3;replace c4:=(hK _ _ ce).trans c4;replace c5:=(hK _ _ ce).trans c5;replace d0:=(hK _ _ cM).trans d0;replace d1:=(hK _ _ cM).trans d1;replace d2:=(hK _ _ cM).trans d2;replace d3:=(hK _ _ cM).trans d3;replace d4:=(hK _ _ cM).trans d4;replace d5:=(hK _ _ cM).trans d5;replace d6:=(hK _ _ cM).trans d6;clear hK;have tX:w.heap.size < wr.heap.size:=(by have:=az.size;omega);have C5:w.heap.size+1 < wr.heap.size:=(by have:=az.size;omega);have AR:(Ar x p (x.aa.take k)).length≤k:=afG x p x.aa k;cases hp:EA x p x.aa[k] with
   | true =>
     have HP:=I hp;have vh:=I (show (oH x.aa[k].name x p == 0) = true from hp);clear hp;go_wp2_with fail
     first
      | (refine (N9 x p _ _ _ _ x.aa[k].name _ (aJ h xH) (aJ h' xH) HW.out Uc.out).mono ?_
         rw [vh.out]
         rintro e wn ⟨rfl,hn⟩)
      | (refine aF _ U' U' (aj _) ?_
         repeat ((first | refine aG Z ?_ | refine aH _ Z Iy ?_);simp only [Act.put,pz])
         refine aN ?_;intro wn hn
         replace hn:=hn.out)
     obtain ⟨j9,kI⟩:=ay hn
     first
      | have jG:wr.heap.size < wn.heap.size:=(sq hn.size)
      | have jG:wr.heap.size≤wn.heap.size:=(sq hn.size)
     have bE:Below w0.heap.size w0 wn:=(by first | exact ah az hn | exact ah (ak az _) hn);first | have zq:=mG aR hn | have zq:=mG (aR.alloc _) hn
     go_wp2_with (
      at_builtin
      go_must (refine lC qw Z _ _ Z _ _ _ _ _ zq Z [.string x.aa[k].name] ly Z e' O O XQ ?_)
      intro v2 w2 dT et cI)
     exact Jt
   | false =>
     have HP:=I hp;have vh:=I (show (oH x.aa[k].name x p == 0) = false from hp);clear hp;go_wp2_with fail
     first
      | (refine (N9 x p _ _ _ _ x.aa[k].name _ (aJ h xH) (aJ h' xH) HW.out Uc.out).mono ?_
         rw [vh.out]
         rintro e wn ⟨rfl,hn⟩)
      | (refine aF _ U' U' (aj _) ?_
         repeat ((first | refine aG Z ?_ | refine aH _ Z Iy ?_);simp only [Act.put,pz])
         refine aN ?_;intro wn hn
         replace hn:=hn.out)
     exact IJ
  ·exact Hz
theorem Zv (x:aU) (p:nI) (cs ps:List Value) (F G:List Nat) (w:World) (h:rd w x cs F) (h':rd w p ps G) (hw:(x.wt:Int)≤1048576) (eC:(p.wt:Int)≤1048576) :
 Calls Tryz.prog 101 #[.agg cs.toArray,.agg ps.toArray] w fun e w'=>∃A c G,e = .returned (.slice A (Ar x p x.aa).length c)∧am w' w.heap.size (Ar x p x.aa) [.slice A (Ar x p x.aa).length c] G∧Below w.heap.size w w':=by
 have ga:x.wt = kL ba.wt x.aa+kL ag.wt x.J:=rfl;have b5:(x.aa.length:Int)≤1048576:=by have:=gJ ba.wt x.aa;omega
 have HW:=I hw;have Uc:=I eC;clear hw eC ga;have hr:=h;have cj:=h';obtain ⟨bG,bD,fQ,dn,bW,jg,ax,hF,bQ,dM,hnext,aV,aP,aW⟩:=aO hr;obtain ⟨bY,bZ,iq,eU,eX,jV,bg,bn,dK,jU,hG,jW,dA,kQ,lg,lG,iO,bK⟩:=dL cj;subst ax jU;clear hF hG hr cj;go_enter Tryz.func101,Tryz.ntmps101;go_wp2_with fail
 obtain ⟨w0,hw0⟩:∃w0,(w.alloc (.cells #[.slice bG x.aa.length bD,.slice dn x.J.length bW,.int .i64 x.next,.int .i64 x.weights.pack,.int .i64 x.weights.af,.int .i64 x.weights.al] 29)).alloc (.cells #[.string p.name,.slice bY p.labels.length bZ,.int .i64 p.aw,.int .i64 p.mem,.int .i64 p.av,.slice eU p.ai.length eX,.slice bg p.ae.length bn] 46) = w0:=⟨_,rfl⟩;try rw [hw0]
 have c0:w0.cell? ⟨w.heap.size,0,none⟩ = some (.slice bG x.aa.length bD):=by rw [← hw0,World.cell?_of_block (heap_alloc_old _ _ S'),cell_of_row _ _ _ _ _ _ (heap_alloc_new w _)];rfl
 have c1:w0.cell? ⟨w.heap.size,1,none⟩ = some (.slice dn x.J.length bW):=by rw [← hw0,World.cell?_of_block (heap_alloc_old _ _ S'),cell_of_row _ _ _ _ _ _ (heap_alloc_new w _)];rfl
 have c2:w0.cell? ⟨w.heap.size,2,none⟩ = some (.int .i64 x.next):=by rw [← hw0,World.cell?_of_block (heap_alloc_old _ _ S'),cell_of_row _ _ _ _ _ _ (heap_alloc_new w _)];rfl
 have c3:w0.cell? ⟨w.heap.size,3,none⟩ = some (.int .i64 x.weights.pack):=by rw [← hw0,World.cell?_of_block (heap_alloc_old _ _ S'),cell_of_row _ _ _ _ _ _ (heap_alloc_new w _)];rfl
 have c4:w0.cell? ⟨w.heap.size,4,none⟩ = some (.int .i64 x.weights.af):=by rw [← hw0,World.cell?_of_block (heap_alloc_old _ _ S'),cell_of_row _ _ _ _ _ _ (heap_alloc_new w _)];rfl
 have c5:w0.cell? ⟨w.heap.size,5,none⟩ = some (.int .i64 x.weights.al):=by rw [← hw0,World.cell?_of_block (heap_alloc_old _ _ S'),cell_of_row _ _ _ _ _ _ (heap_alloc_new w _)];rfl
 have d0:w0.cell? ⟨w.heap.size+1,0,none⟩ = some (.string p.name):=by rw [← hw0];simp
 have d1:w0.cell? ⟨w.heap.size+1,1,none⟩ = some (.slice bY p.labels.length bZ):=by rw [← hw0];simp
 have d2:w0.cell? ⟨w.heap.size+1,2,none⟩ = some (.int .i64 p.aw):=by rw [← hw0];simp
 have d3:w0.cell? ⟨w.heap.size+1,3,none⟩ = some (.int .i64 p.mem):=by rw [← hw0];simp
 have d4:w0.cell? ⟨w.heap.size+1,4,none⟩ = some (.int .i64 p.av):=by rw [← hw0];simp
 have d5:w0.cell? ⟨w.heap.size+1,5,none⟩ = some (.slice eU p.ai.length eX):=by rw [← hw0];simp
 have d6:w0.cell? ⟨w.heap.size+1,6,none⟩ = some (.slice bg p.ae.length bn):=by rw [← hw0];simp
 have jp:Below w.heap.size w w0:=by rw [← hw0];exact ak (ak (aj _) _) _
 have gd:w0.heap.size = w.heap.size+1+1:=by rw [← hw0];simp
 have ce:w.heap.size < w0.heap.size:=by omega
 have cM:w.heap.size+1 < w0.heap.size:=by omega
 have Xs:=I gd;clear hw0 gd;go_loopw [5,6] (fun v i wr=>∃(k:Nat) (ds:List Value),k≤x.aa.length∧i = .int .i64 k∧wr.ownsRow w0.heap.size 9 1 v (Ar x p (x.aa.take k)).length ds∧aY w w0.heap.size (Ar x p (x.aa.take k)) ds []∧Below w0.heap.size w0 wr) (fun _ i _=>x.aa.length - (intOf i).toNat)
 case atStart =>exact Ki
 case round =>
  obtain ⟨k,ds,hk,rfl,aR,fo,az⟩:=hrel;by_cases ap:k < x.aa.length
  ·obtain ⟨b,o,ck,Fk,rfl,o9,hbs,hr,br,hc⟩:=Sl.get (α:=ba) (A:=bG) (c:=bD) bQ ap;obtain ⟨jM,jO,sN,jE,jF,sO,ax,su,zM,qY,Gt,Gw,xg,qA⟩:=iy hr;subst ax;obtain ⟨q0,q1,q2,q3,q4,q5⟩:=lb 6 hc;clear hc;have bF:Below w.heap.size w wr:=ah jp (az.mono O);replace q0:=r' bF q0 hbs;replace q1:=r' bF q1 hbs;replace q2:=r' bF q2 hbs;replace q3:=r' bF q3 hbs;replace q4:=r' bF q4 hbs;replace q5:=r' bF q5 hbs;have WU:b < wr.heap.size:=(by have:=bF.size;omega);have hK:=(ay az).1;replace c0:=(hK _ _ ce).trans c0;replace c1:=(hK _ _ ce).trans c1;replace c2:=(hK _ _ ce).trans c2;replace c3:=(hK _ _ ce).trans c3;replace c4:=(hK _ _ ce).trans c4;replace c5:=(hK _ _ ce).trans c5;replace d0:=(hK _ _ cM).trans d0;replace d1:=(hK _ _ cM).trans d1;replace d2:=(hK _ _ cM).trans d2;replace d3:=(hK _ _ cM).trans d3;replace d4:=(hK _ _ cM).trans d4;replace d5:=(hK _ _ cM).trans d5;replace d6:=(hK _ _ cM).trans d6;clear hK;have tX:w.heap.size < wr.heap.size:=(by have:=az.size;omega);have C5:w.heap.size+1 < wr.heap.size:=(by have:=az.size;omega);have AR:(Ar x p (x.aa.take k)).length≤k:=afG x p x.aa k;cases hp:EA x p x.aa[k] with
   | true =>
     have HP:=I hp;have vh:=I (show (oH x.aa[k].name x p == 0) = true from hp);clear hp;go_wp2_with fail
     first
      | (refine (Oa x p _ _ _ _ x.aa[k].name _ (aJ h xH) (aJ h' xH) HW.out Uc.out).mono ?_
         rw [vh.out]
         rintro e wn ⟨rfl,hn⟩)
      | (refine aF _ U' U' (aj _) ?_
         repeat ((first | refine aG Z ?_ | refine aH _ Z IA ?_);simp only [Act.put,pz])
         refine aN ?_;intro wn hn
         replace hn:=hn.out)
     obtain ⟨j9,kI⟩:=ay hn
     first
      | have jG:wr.heap.size < wn.heap.size:=(sq hn.size)
      | have jG:wr.heap.size≤wn.heap.size:=(sq hn.size)
     have bE:Below w0.heap.size w0 wn:=(by first | exact ah az hn | exact ah (ak az _) hn);first | have zq:=mG aR hn | have zq:=mG (aR.alloc _) hn
     go_wp2_with (
      at_builtin
      go_must (refine lC qw Z _ _ Z _ _ _ _ _ zq Z [.string x.aa[k].name] ly Z e' O O XQ ?_)
      intro v2 w2 dT et cI)
     exact Jt
   | false =>
     have HP:=I hp;have vh:=I (show (oH x.aa[k].name x p == 0) = false from hp);clear hp;go_wp2_with fail
     first
      | (refine (Oa x p _ _ _ _ x.aa[k].name _ (aJ h xH) (aJ h' xH) HW.out Uc.out).mono ?_
         rw [vh.out]
         rintro e wn ⟨rfl,hn⟩)
      | (refine aF _ U' U' (aj _) ?_
         repeat ((first | refine aG Z ?_ | refine aH _ Z IA ?_);simp only [Act.put,pz])
         refine aN ?_;intro wn hn
         replace hn:=hn.out)
     exact IJ
  ·exact Hz
end Go.Proofs.YtjahcnjmjahbaaaGreat
