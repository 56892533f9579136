/- l15Values of the reference. No condition. -/
import Derived.Test.YtjahcnjmjahbaaaGreatByteLt
import Derived.Test.YtjahcnjmjahbaaaGreatNormK
import Derived.Deep.RegionLaw
namespace Go.Proofs.YtjahcnjmjahbaaaGreat
open Go.ChangeShapes Go.WideShapes Go.ChangeAt Go.RowKit
set_option linter.unusedVariables false
set_option linter.unusedSimpArgs false
set_option maxHeartbeats 8000000
set_option maxRecDepth 100000
theorem aEt (D:List ByteArray) {w:World} {B e g cap:Nat} (h:w.ownsRow B e 1 (.slice (some ⟨g,0,none⟩) D.length cap) D.length (D.map Value.string)) (hr:∀x∈D,rd w x [.string x] []):∃A c G,Value.slice (some ⟨g,0,none⟩) D.length cap = .slice A D.length c/\ai w B D [.slice A D.length c] G:=by
 have de:∀D:List ByteArray,(∀x∈D,rd w x [.string x] [])->jo w D (D.map Value.string) []:=λD=>by
  induction D with
  | nil=>intro _;exact ⟨rfl,rfl⟩
  | cons x D ih=>intro hD;exact ⟨[.string x],D.map Value.string,[],[],rfl,rfl,hD x (List.mem_cons_self ..),ih λy hy=>hD y (List.mem_cons_of_mem _ hy)⟩
 exact Nr
theorem aJU (xs:List ByteArray) (A:Option Addr) (c:Nat) (F:List Nat) (w:World) (h:Sl w xs A c F) (hl:(xs.length:Int)<=1048576) :
 Calls Tryz.prog 231 #[.slice A xs.length c] w λe w'=>∃A' c' G,e = .returned (.slice A' (gj xs).length c')/\ai w' w.heap.size (gj xs) [.slice A' (gj xs).length c'] G/\Below w.heap.size w w'/\eK w' w.heap.size 9 1 A' c':=by
 have sw:=I (show ∀x∈xs,∀w':World,rd w' x [.string x] [] from λx hx w'=>by
  obtain ⟨k,hk,rfl⟩:=List.getElem_of_mem hx;obtain ⟨b,o,ck,Fk,_,_,_,hr,_,_⟩:=h.get hk;obtain ⟨h1,h2,h3⟩:=hr
  exact ⟨rfl,rfl,h3⟩)
 go_enter Tryz.func231,Tryz.ntmps231;go_wp2_with fail
 go_loopw [3,4] (λv i wr=>∃k N g cap:Nat,k<=xs.length/\N<=k/\i = .int .i64 (k:Int)/\v = .slice (some ⟨g,0,none⟩) N cap/\Hid ((gj (xs.take k)).length = N)/\wr.ownsRow w.heap.size 9 1 (.slice (some ⟨g,0,none⟩) N cap) N ((gj (xs.take k)).map Value.string)/\Below w.heap.size w wr) (λ_ i _=>xs.length - (intOf i).toNat)
 case atStart=>exact ⟨0,0,w.heap.size,0,J,Nat.le_refl _,rfl,rfl,I rfl,D9 w 9 1 w.heap.size rfl,ak (aj _) _⟩
 case round =>
  obtain ⟨k,N,g,cap,hk,hNk,rfl,rfl,cP,bz,ax⟩:=hrel;by_cases am:k < xs.length
  ·obtain ⟨wo,hwo⟩:∃wo,wo = wr:=⟨_,rfl⟩;subst hwo;obtain ⟨b,o,ck,Fk,hA,hbG,hbs,aJe,_,hcells⟩:=Sl.get h am;subst hA;have dC:gj (xs.take (k+1)) = eM blt xs[k] (gj (xs.take k)):=(by unfold gj;rw [List.take_succ_eq_append_getElem am,Jt]);obtain ⟨y,hy⟩:∃y,xs[k] = y:=⟨_,rfl⟩;rw [hy] at aJe dC;obtain ⟨aq,_,_⟩:=aJe;subst aq;have k0:wo.cell? ⟨b,o+k,none⟩ = some (.string y):=r' ax (by have:=hcells 0 _ rfl;simpa [show bd.size ByteArray = 1 from rfl] using this) hbs;have Jf:=I dC;clear hcells hy dC;generalize gj (xs.take k) = SS at *;obtain ⟨rC,eE,lh,hgc⟩:=IE bz;have T9:w.heap.size<=wo.heap.size:=ax.size;have ey:b < wo.heap.size:=J;have lO:=I hgc;have gO:=I bz;have e9:=I ax;clear hgc bz ax;go_wp2_with fail
   go_loopw [5] (λj wr=>∃(s1 s2:List ByteArray) (jj:Nat),Hid (SS = s1++s2)/\j = .int .i64 (jj:Int)/\Hid (s1.length = jj)/\Hid (∀z∈s1,blt z y = true)/\Below wo.heap.size wo wr) (λj _=>N - (intOf j).toNat)
   case atStart=>exact ⟨[],SS,0,I rfl,rfl,I rfl,I (λz hz=>by cases hz),aj _⟩
   case round =>
    obtain ⟨s1,s2,jj,HE,rfl,HJ,HN,bL⟩:=hrel;have mc:∀bq oq u,wo.cell? ⟨bq,oq,none⟩ = some u->bq < wo.heap.size->wr.cell? ⟨bq,oq,none⟩ = some u:=λbq oq u h1 h2=>(bL.cell (p:=⟨bq,oq,none⟩) h2).trans h1;replace k0:=mc _ _ _ k0 ey;have MC:=I mc;have pj:wo.heap.size<=wr.heap.size:=bL.size;have om:b < wr.heap.size:=J;have mR:g < wr.heap.size:=J;clear mc;cases s2 with
    | nil =>
      have fe:jj = N:=(by have e1:=HE.out;have e2:=cP.out;have e3:=HJ.out;rw [e1,List.append_nil] at e2;omega);have qk:N<=jj:=J;have qm:decide ((jj:Int) < (N:Int)) = false:=(by simp;omega);have qn:decide (jj < N) = false:=(by simp;omega);clear fe;have HI:=I (show eM blt y (SS) = s1++y :: [] by rw [HE.out];exact Sg s1 HN.out);go_wp2_with fail
      refine aF wr U' U' (aj _) ?_
      repeat ((first | refine aG J' ?_ | refine aH _ J' du ?_);simp only [Act.put,pz])
      refine aN ?_;intro wm hn;replace hn:=hn.out;have ij:Below wo.heap.size wo wm:=ah bL hn;have ik:g < wm.heap.size:=(by have:=hn.size;omega);have il:b < wm.heap.size:=(by have:=hn.size;omega);replace k0:=r' hn k0 er;clear bL hn;obtain ⟨bL,om,mR⟩:Below wo.heap.size wo wm/\b < wm.heap.size/\g < wm.heap.size:=⟨ij,il,ik⟩;clear ij il ik;go_wp2_with fail
      refine aF wm U' U' (aj _) ?_
      repeat ((first | refine aG J' ?_ | refine aH _ J' du ?_);simp only [Act.put,pz])
      refine aN ?_;intro wn hn;replace hn:=hn.out;have bw:Below wo.heap.size wo wn:=ah bL hn;have mq:=I (show Below w.heap.size w wn from ah e9.out bw);have RJ:=mG gO.out bw;obtain ⟨_,fa,apy,V4⟩:=IE RJ
      have et:=I (show ∀q u,((s1).map Value.string)[q]? = some u->wn.cell? ((⟨g,0,none⟩:Addr).add q) = some u from λq u hu=>by
       rw [Addr.add_lit,Nat.zero_add];refine V4 q u ?_
       rw [HE.out,List.map_append,List.getElem?_append_left (List.getElem?_eq_some_iff.1 hu).1];exact hu)
      have Gn:=I (show ∀q u,((([]:List ByteArray)).map Value.string)[q]? = some u->wn.cell? ⟨g,jj+q,none⟩ = some u from λq u hu=>by
       refine V4 (jj+q) u ?_
       rw [HE.out,List.map_append,List.getElem?_append_right D2,List.length_map,HJ.out,Nat.add_sub_cancel_left];exact hu)
      have dm:jj+(([]:List ByteArray)).length = N:=(by have e1:=congrArg List.length HE.out;have e2:=cP.out;have e3:=HJ.out;rw [List.length_append] at e1;omega);have n9:jj<=N:=J;have pk:jj<=cap:=J;replace k0:=r' hn k0 er;have pm:b < wn.heap.size:=(by have:=hn.size;omega);have gN:=I dm;have j':=I bw;clear RJ V4 dm bw;go_wp2_with fail
      refine zU wn 12 U' U' (aj _) ?_;refine YU (λa0 a' w'=>∃(g9 p9:Nat) (cV cW cX cY cZ da db dy ez eA:Value),a' = (Act.put (Act.put (Act.put (Act.put (Act.put (Act.put (Act.put (Act.put (Act.put (Act.put (Act.put (Act.put a0 (some 46) (cV)) (some 47) (cW)) (some 48) (cX)) (some 49) (cY)) (some 50) (cZ)) (some 51) (da)) (some 52) (db)) (some 53) (dy)) (some 54) (ez)) (some 55) (eA)) (some 56) (.slice (some ⟨g9,0,none⟩) (jj+1) p9)) (some 6) (.slice (some ⟨g9,0,none⟩) (jj+1) p9))/\Below wn.heap.size wn w'/\World.ownsRow w' wn.heap.size 9 1 (.slice (some ⟨g9,0,none⟩) (jj+1) p9) (jj+1) (((s1).map Value.string)++[.string y])) ?_ ?_;rotate_left
      ·exact NB
      intro a' w7 ff;obtain ⟨g9,p9,cV,cW,cX,cY,cZ,da,db,dy,ez,eA,rfl,bx,nK⟩:=ff;try simp only [Act.put,pz]
      have cL:∃A0:Addr,(if cap = jj then some (⟨g,0,none⟩:Addr) else some ⟨g,jj,none⟩) = some A0/\Hid (A0.block = g/\∀q u,((([]:List ByteArray)).map Value.string)[q]? = some u->w7.cell? (A0.add q) = some u):=by exact Ol
      obtain ⟨A0,hA0,asg⟩:=cL;have bs:N - jj = (([]:List ByteArray)).length:=(by have:=gN.out;omega);have nA:=I bs;clear bs
      go_wp2_with (
       at_builtin
       go_must (refine xW qw J' _ _ J' w7 wn.heap.size _ _ _ nK J' A0 0 (cap - jj) ((([]:List ByteArray)).map Value.string) J' J' asg.out.2 (λu hu=>by obtain ⟨z0,_,rfl⟩:=List.mem_map.1 hu;rfl) J J lI ?_)
       intro v8 w8 Le cQ li;rw [show jj+1+0 = N+1 by omega] at Le;obtain ⟨g8,p8,hv8,aJs,aJt,aJu⟩:=wW Le J
       subst hv8)
      exact N5
    | cons z s2 =>
      have fe:jj < N:=(by have e1:=congrArg List.length HE.out;have e2:=cP.out;have e3:=HJ.out;rw [List.length_append,List.length_cons] at e1;omega);have z0:wr.cell? ⟨g,jj,none⟩ = some (.string z):=MC.out _ _ _ (lO.out jj _ Wz) eE;have qm:decide ((jj:Int) < (N:Int)) = true:=(by simp;omega);cases hL:Op.bytesLess z.toList y.toList with
      | true =>have HL:=I (show blt z y = true from hL);exact NO
      | false =>
        have HL:=I (show blt z y = false from hL);go_wp2_with fail
        refine aF wr U' U' (aj _) ?_
        repeat ((first | refine aG J' ?_ | refine aH _ J' du ?_);simp only [Act.put,pz])
        refine aN ?_;intro wm hn;replace hn:=hn.out;have ij:Below wo.heap.size wo wm:=ah bL hn;have ik:g < wm.heap.size:=(by have:=hn.size;omega);have il:b < wm.heap.size:=(by have:=hn.size;omega);replace k0:=r' hn k0 er;replace z0:=r' hn z0 sK;clear bL hn;obtain ⟨bL,om,mR⟩:Below wo.heap.size wo wm/\b < wm.heap.size/\g < wm.heap.size:=⟨ij,il,ik⟩;clear ij il ik;clear hL;cases hE:(z.toList == y.toList) with
        | true =>
          have HI:=I (show eM blt y (SS) = SS by rw [HE.out];exact Sk s1 s2 HN.out HL.out (by rw [Ce hE];exact EP.Hp y));go_wp2_with fail
          refine aF wm U' U' (aj _) ?_
          repeat ((first | refine aG J' ?_ | refine aH _ J' du ?_);simp only [Act.put,pz])
          refine aN ?_;intro wn hn;replace hn:=hn.out;exact Mm
        | false =>
          have HG:=I (show blt y z = true by
           cases hh:blt y z with
           | true=>rfl
           | false=>have:=EP.Se z y HL.out hh;rw [this] at hE;simp at hE)
          have HI:=I (show eM blt y (SS) = s1++y :: (z :: s2) by rw [HE.out];exact Sh s1 s2 HN.out HL.out HG.out);go_wp2_with fail
          refine aF wm U' U' (aj _) ?_
          repeat ((first | refine aG J' ?_ | refine aH _ J' du ?_);simp only [Act.put,pz])
          refine aN ?_;intro wn hn;replace hn:=hn.out;clear hE;have bw:Below wo.heap.size wo wn:=ah bL hn;have mq:=I (show Below w.heap.size w wn from ah e9.out bw);have RJ:=mG gO.out bw;obtain ⟨_,fa,apy,V4⟩:=IE RJ
          have et:=I (show ∀q u,((s1).map Value.string)[q]? = some u->wn.cell? ((⟨g,0,none⟩:Addr).add q) = some u from λq u hu=>by
           rw [Addr.add_lit,Nat.zero_add];refine V4 q u ?_
           rw [HE.out,List.map_append,List.getElem?_append_left (List.getElem?_eq_some_iff.1 hu).1];exact hu)
          have Gn:=I (show ∀q u,((z :: s2).map Value.string)[q]? = some u->wn.cell? ⟨g,jj+q,none⟩ = some u from λq u hu=>by
           refine V4 (jj+q) u ?_
           rw [HE.out,List.map_append,List.getElem?_append_right D2,List.length_map,HJ.out,Nat.add_sub_cancel_left];exact hu)
          have dm:jj+(z :: s2).length = N:=(by have e1:=congrArg List.length HE.out;have e2:=cP.out;have e3:=HJ.out;rw [List.length_append] at e1;omega);have n9:jj<=N:=J;have pk:jj<=cap:=J;have T':¬cap = jj:=J;replace k0:=r' hn k0 er;have pm:b < wn.heap.size:=(by have:=hn.size;omega);have gN:=I dm;have j':=I bw;clear RJ V4 dm bw;go_wp2_with fail
          refine zU wn 12 U' U' (aj _) ?_;refine YU (λa0 a' w'=>∃(g9 p9:Nat) (cV cW cX cY cZ da db dy ez eA:Value),a' = (Act.put (Act.put (Act.put (Act.put (Act.put (Act.put (Act.put (Act.put (Act.put (Act.put (Act.put (Act.put a0 (some 46) (cV)) (some 47) (cW)) (some 48) (cX)) (some 49) (cY)) (some 50) (cZ)) (some 51) (da)) (some 52) (db)) (some 53) (dy)) (some 54) (ez)) (some 55) (eA)) (some 56) (.slice (some ⟨g9,0,none⟩) (jj+1) p9)) (some 6) (.slice (some ⟨g9,0,none⟩) (jj+1) p9))/\Below wn.heap.size wn w'/\World.ownsRow w' wn.heap.size 9 1 (.slice (some ⟨g9,0,none⟩) (jj+1) p9) (jj+1) (((s1).map Value.string)++[.string y])) ?_ ?_;rotate_left
          ·exact NB
          intro a' w7 ff;obtain ⟨g9,p9,cV,cW,cX,cY,cZ,da,db,dy,ez,eA,rfl,bx,nK⟩:=ff;try simp only [Act.put,pz]
          have bs:N - jj = (z :: s2).length:=(by have:=gN.out;omega);have nA:=I bs;clear bs
          go_wp2_with (
           at_builtin
           go_must (refine xW qw J' _ _ J' w7 wn.heap.size _ _ _ nK J' ⟨g,jj,none⟩ (N - jj) (cap - jj) ((z :: s2).map Value.string) J' Tw (λq u hu=>by rw [Addr.add_lit];exact (bx.cell (p:=⟨g,jj+q,none⟩) fa).trans (Gn.out q u hu)) (λu hu=>by obtain ⟨z0,_,rfl⟩:=List.mem_map.1 hu;rfl) J J lI ?_)
           intro v8 w8 Le cQ li;rw [show jj+1+(N - jj) = N+1 by omega] at Le;obtain ⟨g8,p8,hv8,aJs,aJt,aJu⟩:=wW Le J
           subst hv8)
          exact N5
  ·have bs:k = xs.length:=J;subst bs;rw [List.take_length] at bz cP;rw [<- cP.out] at bz;obtain ⟨A4,c4,G4,hv4,i6⟩:=aEt (gj xs) bz (λx hx=>sw.out x (aA4 hx) wr);rw [cP.out] at hv4;simp only [Value.slice.injEq,true_and] at hv4;obtain ⟨yb,ej⟩:=hv4;subst yb ej;have lB:=I i6;have mr:=I (eK.oJ bz (Nat.le_refl _));clear bz i6;go_wp2;go_ret
   exact ⟨some ⟨g,0,none⟩,cap,G4,by rw [cP.out];try rfl,lB.out,ax,mr.out⟩
theorem aAw (xs:List ByteArray) (A:Option Addr) (c:Nat) (F:List Nat) (w:World) (h:Sl w xs A c F) (hl:(xs.length:Int)<=1048576) :
 Calls Tryz.prog 231 #[.slice A xs.length c] w λe w'=>∃A' c' G,e = .returned (.slice A' (gj xs).length c')/\ai w' w.heap.size (gj xs) [.slice A' (gj xs).length c'] G/\Below w.heap.size w w' :=
 (aJU xs A c F w h hl).mono λ_ _ ⟨A',c',G,a,b,d,_⟩=>⟨A',c',G,a,b,d⟩
def kS {β:Type} (cv:β->β->Int) (x y:β):Bool:=decide (cv x y < 0)
section
variable {β:Type} {lt:β->β->Bool}
theorem sT.at_ {l:List β} (h:sT lt l) {t u:Nat} (htu:t < u) (hu:u < l.length):lt l[u] (l[t]'J) = false :=
 List.pairwise_iff_getElem.1 h t u J hu htu
end
structure Eb where
 name:ByteArray
 la:Option Addr
 ln:Nat
 lc:Nat
 aw:Int
 mem:Int
 av:Int
 na:Option Addr
 nn:Nat
 nc:Nat
 ta:Option Addr
 tn:Nat
 tc:Nat
 on:ByteArray
 seq:Int
def tH (x:Eb):List Value:=[.string x.name,.slice x.la x.ln x.lc,.int .i64 x.aw,.int .i64 x.mem,.int .i64 x.av,.slice x.na x.nn x.nc,.slice x.ta x.tn x.tc,.string x.on,.int .i64 x.seq]
section
end
abbrev E4:=ByteArray × Int × Int
def wkI (a b:E4):List Int:=[Lib.compareInt b.2.1 a.2.1,Lib.compareInt a.2.2 b.2.2]
def qy (a b:E4):Int:=Qa (wkI a b)
def Qh (p:ag):E4:=(p.aS.name,p.aS.av,p.seq)
def iw (ps:List ag):List E4:=(ps.filter λp=>p.on.toList == []).map Qh
def GI (ps:List ag):List ByteArray:=(bB (kS qy) [] (iw ps)).map λk=>k.1
theorem alD (a b:E4):kS qy a b = true↔b.2.1 < a.2.1∨(a.2.1 = b.2.1/\a.2.2 < b.2.2):=by
 unfold kS qy wkI Qa Qa;rw [decide_eq_true_eq];unfold Lib.compareInt;by_cases h1:b.2.1 < a.2.1
 ·simp [h1]
 ·by_cases h2:a.2.1 < b.2.1
  ·simp [h1,h2];omega
  ·have h3:a.2.1 = b.2.1:=J;simp [h3,Qa];by_cases h4:a.2.2 < b.2.2
   ·simp [h4]
   ·by_cases h5:b.2.2 < a.2.2
    ·simp [h4,h5]
    ·simp [h4,h5]
theorem anD {ps:List ag} {k:Nat} (h:k < ps.length) (hp:(ps[k].on.toList == []) = true):iw (ps.take (k+1)) = iw (ps.take k)++[Qh ps[k]]:=by
 have e:List.filter (λp:ag=>p.on.toList == []) [ps[k]] = [ps[k]]:=List.filter_eq_self.2 λa ha=>by rw [List.mem_singleton.1 ha];exact hp
 unfold iw;rw [List.take_succ_eq_append_getElem h,List.filter_append,List.map_append,e];rfl
theorem apO {ps:List ag} {k:Nat} (h:k < ps.length) (hp:(ps[k].on.toList == []) = false):iw (ps.take (k+1)) = iw (ps.take k):=by
 have e:List.filter (λp:ag=>p.on.toList == []) [ps[k]] = []:=List.filter_eq_nil_iff.2 λa ha=>by rw [List.mem_singleton.1 ha,hp];simp
 unfold iw;rw [List.take_succ_eq_append_getElem h,List.filter_append,List.map_append,e];simp
theorem anF (ps:List ag):(iw ps).length<=ps.length:=by unfold iw;rw [List.length_map];exact List.length_filter_le _ _
theorem ap3 (ps:List ag):(GI ps).length<=ps.length:=by unfold GI;rw [List.length_map,rD];have:=anF ps;simp;omega
def lW (r:Eb):E4:=(r.name,r.av,r.seq)
theorem anC:(Tryz.prog.info? 9).map (λi=>(i.zero,i.size,i.bytes)) = some (some (.string ⟨#[]⟩),1,16):=by kernel_rfl
theorem ajn:DL Tryz.prog 61 9 (.string ⟨#[]⟩) 1 16:=⟨Tryz.underlying61,anC,rfl,J⟩
theorem acJ (w:World):∀ys:List ByteArray,(∀y∈ys,y.size<=maxLen)->jo w ys (ys.map Value.string) []
 | [],_=>⟨rfl,rfl⟩
 | y :: ys,h=>⟨[.string y],ys.map Value.string,[],[],rfl,rfl,⟨rfl,rfl,h y (List.mem_cons_self ..)⟩,acJ w ys λz hz=>h z (List.mem_cons_of_mem _ hz)⟩
theorem adz {w:World} {B e B':Nat} {v:Value} {xs:List ByteArray} {n:Nat} (h:w.ownsRow B e 1 v n (xs.map Value.string)) (hn:n = xs.length) (hB:B'<=B) (hz:∀y∈xs,y.size<=maxLen) :
 ∃A c G,v = .slice A xs.length c/\ai w B' xs [.slice A xs.length c] G:=by
 subst hn;exact ai.oJ (e:=e) (ds:=xs.map Value.string) (F:=[]) (vP h hB) ⟨acJ w _ hz,List.nodup_nil,(λb hb=>by cases hb),(λb hb=>by cases hb)⟩ (λg _ hm=>by cases hm)
theorem asU:(Tryz.prog.info? 3).map (λi=>(i.zero,i.size,i.bytes)) = some (some (.int .i64 0),1,8):=by kernel_rfl
theorem I3:DL Tryz.prog 109 3 (.int .i64 0) 1 8:=⟨Tryz.underlying109,asU,rfl,J⟩
theorem asV {a b:Bool} (h:a = b):Ending.returned (.bool a) = .returned (.bool b):=by rw [h]
theorem ajp (x y:Eb) (w:World) :
 Calls Tryz.prog 60 #[.agg #[.string x.name,.slice x.la x.ln x.lc,.int .i64 x.aw,.int .i64 x.mem,.int .i64 x.av,.slice x.na x.nn x.nc,.slice x.ta x.tn x.tc,.string x.on,.int .i64 x.seq],.agg #[.string y.name,.slice y.la y.ln y.lc,.int .i64 y.aw,.int .i64 y.mem,.int .i64 y.av,.slice y.na y.nn y.nc,.slice y.ta y.tn y.tc,.string y.on,.int .i64 y.seq]] w λe w'=>e = .returned (.bool (kS qy (lW x) (lW y)))/\Below w.heap.size w w':=by
 have am:=alD (lW x) (lW y);have e1:(lW x).2.1 = x.av:=rfl;have e2:(lW y).2.1 = y.av:=rfl;have e3:(lW x).2.2 = x.seq:=rfl;have e4:(lW y).2.2 = y.seq:=rfl;rw [e1,e2,e3,e4] at am;clear e1 e2 e3 e4;generalize kS qy (lW x) (lW y) = L at *;cases h1:decide (y.av < x.av) <;> cases h2:(x.av == y.av) <;> cases h3:decide (x.seq < y.seq)
 all_goals
  have HL:=I am;have H1:=I h1;have H2:=I h2;have H3:=I h3;clear am;go_enter Tryz.func60,Tryz.ntmps60;go_wp2;go_ret
  refine ⟨asV ?_,ak (ak (aj _) _) _⟩;have a1:=H1.out;have a2:=H2.out;have a3:=H3.out;have a4:=HL.out;simp at a1 a2 a3;cases L
  ·simp at a4 |-;try omega
  ·simp at a4 |-;try omega
def po (ps:List ag) (i:Nat):E4:=match ps[i]? with | some p=>Qh p | none=>(⟨#[]⟩,0,0)
theorem UF {ps:List ag} {i:Nat} (h:i < ps.length):po ps i = Qh ps[i]:=by unfold po;rw [List.getElem?_eq_getElem h]
theorem ZJ {w:World} {ps:List ag} {A:Option Addr} {c:Nat} {F:List Nat} (h:Sl w ps A c F) (bN:0 < ps.length):∃b o,A = some ⟨b,o,none⟩/\b < w.heap.size /\
 ∀z (hz:z < ps.length),∃r:Eb,lW r = Qh ps[z]/\r.on = ps[z].on/\r.name.size<=maxLen/\∀j u,(tH r)[j]? = some u->w.cell? ⟨b,o+z * 9+j,none⟩ = some u:=by
 obtain ⟨b,o,_,_,hA,_,hbs,_⟩:=Sl.get (α:=ag) h bN;subst hA;refine ⟨b,o,rfl,hbs,λz hz=>?_⟩;obtain ⟨b',o',ck,Fk,hA,o9,_,hr,bm,hc⟩:=Sl.get (α:=ag) h hz;simp only [Option.some.injEq,Addr.mk.injEq,and_true] at hA;obtain ⟨rfl,rfl⟩:=hA;obtain ⟨c1,c2,F1,F2,rfl,rfl,QS,_,_,_,_,rfl,rfl,⟨rfl,rfl,eI⟩,⟨rfl,rfl,hseq⟩⟩:=hr;obtain ⟨Al,cl,Fl,An,cn,Fn,At,ct,Ft,aq,su,hpn,_⟩:=dL QS;subst aq;refine ⟨⟨ps[z].aS.name,Al,ps[z].aS.labels.length,cl,ps[z].aS.aw,ps[z].aS.mem,ps[z].aS.av,An,ps[z].aS.af.length,cn,At,ps[z].aS.ae.length,ct,ps[z].on,ps[z].seq⟩,rfl,rfl,hpn,λj u hu=>?_⟩;have:=hc j u hu;rw [show o+(z * bd.size ag+j) = o+z * 9+j from by show o+(z * 9+j) = _;omega] at this;exact this
theorem Uj (a:Int) (m:Nat) (hm:m < 9223372036854775808):0<=bits .and .i64 a (m:Int)/\bits .and .i64 a (m:Int)<=m:=by
 have h2:(BitVec.ofInt 64 (m:Int)).toNat = m:=by rw [BitVec.ofInt_natCast,BitVec.toNat_ofNat];exact Nat.mod_eq_of_lt J
 have h3:(BitVec.ofInt 64 a &&& BitVec.ofInt 64 (m:Int)).toNat<=m:=by rw [BitVec.toNat_and,h2];exact Nat.and_le_right
 have e:bits .and .i64 a (m:Int) = IntKind.i64.wrap ((BitVec.ofInt 64 a &&& BitVec.ofInt 64 (m:Int)).toNat:Int):=rfl;rw [e,IntKind.wrap_i64];omega
theorem aC6 (a:Int):aR (wrap64 a):=by unfold wrap64 aR;omega
theorem EV (w:World) (c:Nat) (A:Option Addr) (n cap:Nat) (h:cj w c A n cap) :
 Calls Tryz.prog 85 #[.pointer (some ⟨c,0,none⟩)] w λe w'=>∃r:Int,e = .returned (.int .i64 r)/\(0<=r/\r<=255)/\cj w' c A n cap/\nN [c] w w':=by
 obtain ⟨i0,x0,hi,hx,c0,c1,c2,hfz⟩:=h.cells;have am:=h.lt;have cE:=hfz 2;have H:=I h;clear h hfz hi hx;go_enter Tryz.func85,Tryz.ntmps85;go_wp2;have hu:nN [c] w (w.setCell ⟨c,2,none⟩ (.int .i64 (wrap64 (wrap64 (x0 * 6364136223846793005)+1442695040888963407)))):=(nN.refl _ _).setCell S' _;have H1:=H.out.number (x:=wrap64 (wrap64 (x0 * 6364136223846793005)+1442695040888963407)) (aC6 _);generalize w.setCell ⟨c,2,none⟩ (.int .i64 (wrap64 (wrap64 (x0 * 6364136223846793005)+1442695040888963407))) = w1 at *;clear c0 c1 c2 cE;obtain ⟨i,x,hi,hx,c0,c1,c2,hfz⟩:=H1.cells;have hs:=H1.small;have eO:=hfz 1;have fm:=H1.lt;by_cases hk:i < n
 ·obtain ⟨k,rfl⟩:∃k:Nat,i = k:=⟨i.toNat,J⟩;obtain ⟨g,o,v,rfl,hg,hv,hJ,te⟩:=H1.byte (k:=k) J;replace H1:=I H1;go_region
  obtain ⟨y,hy,hy0,ym⟩:∃y,bits BinOp.and IntKind.i64 (bits BinOp.xor IntKind.i64 (x / 8589934592) (x / 35184372088832)) 255 = y/\0<=y/\y<=255:=⟨_,rfl,Uj _ 255 (by decide)⟩;simp only [hy];clear hy;go_wp2;go_region
  go_wp2;go_region
  go_wp2;go_ret
  exact ⟨_,rfl,Uj _ 255 (by decide),(H1.out.place J).drew.drew.drew,((hu.setCell S' _).drew.drew.drew)⟩
 ·replace H1:=I H1;go_region
  obtain ⟨y,hy,hy0,ym⟩:∃y,bits BinOp.and IntKind.i64 (bits BinOp.xor IntKind.i64 (x / 8589934592) (x / 35184372088832)) 255 = y/\0<=y/\y<=255:=⟨_,rfl,Uj _ 255 (by decide)⟩;simp only [hy];clear hy;go_wp2;go_region
  go_wp2;go_ret
  exact ⟨_,rfl,⟨hy0,ym⟩,H1.out.drew.drew,hu.drew.drew⟩
theorem lk (m:Nat) (hm:0 < m/\(m:Int)<=1000000000) (w:World) (c:Nat) (A:Option Addr) (n cap:Nat) (h:cj w c A n cap) :
 Calls Tryz.prog 65 #[.pointer (some ⟨c,0,none⟩),.int .i64 m] w λe w'=>∃r:Nat,e = .returned (.int .i64 r)/\r < m/\cj w' c A n cap/\nN [c] w w':=by
 obtain ⟨Uk,oy⟩:=hm;have am:=h.lt;have HC:=I h;clear h;by_cases hs:(m:Int)<=256
 ·go_enter Tryz.func65,Tryz.ntmps65;go_wp2_with fail
  refine (EV _ c A n cap HC.out).mono ?_;rintro e w1 ⟨r,rfl,⟨cH,f'⟩,H1,hu⟩;obtain ⟨k,rfl⟩:∃k:Nat,r = k:=⟨r.toNat,J⟩;replace H1:=I H1;go_wp2;go_ret
  exact ⟨k % m,S',Nat.mod_lt _ Uk,H1.out,hu⟩
 ·go_enter Tryz.func65,Tryz.ntmps65;go_wp2_with fail
  refine (EV _ c A n cap HC.out).mono ?_;rintro e w1 ⟨r1,rfl,⟨cH,f'⟩,H1,hu1⟩;replace H1:=I H1;go_wp2_with fail
  refine (EV _ c A n cap H1.out).mono ?_;rintro e w2 ⟨r2,rfl,⟨YI,lz⟩,H2,ca⟩;replace H2:=I H2;go_wp2_with fail
  refine (EV _ c A n cap H2.out).mono ?_;rintro e w3 ⟨r3,rfl,⟨jx,cF⟩,H3,bJ⟩;replace H3:=I H3;go_wp2_with fail
  refine (EV _ c A n cap H3.out).mono ?_;rintro e w4 ⟨r4,rfl,⟨ht0,sx⟩,H4,Td⟩;replace H4:=I H4;go_wp2;go_ret
  obtain ⟨q,hq⟩:∃q:Nat,r1 * 16777216+r2 * 65536+r3 * 256+r4 = q:=⟨(r1 * 16777216+r2 * 65536+r3 * 256+r4).toNat,J⟩;exact ⟨q % m,(by simp [hq]),Nat.mod_lt _ Uk,H4.out,(hu1.trans ca).trans (bJ.trans Td)⟩
theorem Ao (m:Nat) (hm:0 < m/\(m:Int)<=1000000000) (w:World) (c:Nat) (A:Option Addr) (n cap:Nat) (h:cj w c A n cap) :
 Calls Tryz.prog 44 #[.pointer (some ⟨c,0,none⟩),.int .i64 m] w λe w'=>∃r:Bool,e = .returned (.bool r)/\cj w' c A n cap/\nN [c] w w':=by
 have HC:=I h;clear h;have HM:=I hm;clear hm;go_enter Tryz.func44,Tryz.ntmps44;go_wp2_with fail
 refine (lk m HM.out _ c A n cap HC.out).mono ?_;rintro e w1 ⟨k,rfl,hk,H1,hu⟩;replace H1:=I H1;go_wp2;go_ret
 exact ⟨_,rfl,H1.out,hu⟩
theorem YJ (S:ByteArray->Prop) (g m mc:Nat) (hm:0 < m/\(m:Int)<=1000000000) (w:World) (c:Nat) (A:Option Addr) (n cap:Nat) (h:cj w c A n cap) (hg:g≠c) (lw:g < w.heap.size) (hS:∀k,k < m->∃s,w.cell? ⟨g,k,none⟩ = some (.string s)/\S s) :
 Calls Tryz.prog 163 #[.pointer (some ⟨c,0,none⟩),.slice (some ⟨g,0,none⟩) m mc] w λe w'=>∃s,e = .returned (.string s)/\S s/\cj w' c A n cap/\nN [c] w w':=by
 have HC:=I h;clear h;have HM:=I hm;clear hm;go_enter Tryz.func163,Tryz.ntmps163;go_wp2_with fail
 refine (lk m HM.out _ c A n cap HC.out).mono ?_;rintro e w1 ⟨k,rfl,hk,H1,hu⟩;replace H1:=I H1;obtain ⟨s,hs,cC⟩:=hS k hk;have vh:(k:Int) < m:=by omega
 have cF:w1.cell? ⟨g,k,none⟩ = some (.string s):=by rw [<- hs];exact World.cell?_of_block (hu.block g lw (by simpa using hg))
 go_wp2;go_ret
 exact ⟨_,rfl,cC,H1.out,hu⟩
theorem YK (S:Int->Prop) (g m mc:Nat) (hm:0 < m/\(m:Int)<=1000000000) (w:World) (c:Nat) (A:Option Addr) (n cap:Nat) (h:cj w c A n cap) (hg:g≠c) (lw:g < w.heap.size) (hS:∀k,k < m->∃s,w.cell? ⟨g,k,none⟩ = some (.int .i64 s)/\S s) :
 Calls Tryz.prog 114 #[.pointer (some ⟨c,0,none⟩),.slice (some ⟨g,0,none⟩) m mc] w λe w'=>∃s,e = .returned (.int .i64 s)/\S s/\cj w' c A n cap/\nN [c] w w':=by
 have HC:=I h;clear h;have HM:=I hm;clear hm;go_enter Tryz.func114,Tryz.ntmps114;go_wp2_with fail
 refine (lk m HM.out _ c A n cap HC.out).mono ?_;rintro e w1 ⟨k,rfl,hk,H1,hu⟩;replace H1:=I H1;obtain ⟨s,hs,cC⟩:=hS k hk;have vh:(k:Int) < m:=by omega
 have cF:w1.cell? ⟨g,k,none⟩ = some (.int .i64 s):=by rw [<- hs];exact World.cell?_of_block (hu.block g lw (by simpa using hg))
 go_wp2;go_ret
 exact ⟨_,rfl,cC,H1.out,hu⟩
theorem aBW (w:World) (A:Option Addr) (n cap:Nat) (hn:(n:Int)<=1048576) (cL:∀k,k < n->∃(g o:Nat) (v:Int),A = some ⟨g,o,none⟩/\g < w.heap.size/\w.cell? ⟨g,o+k,none⟩ = some (.int .u8 v)/\0<=v/\v<=255) :
 Calls Tryz.prog 27 #[.slice A n cap] w λe w'=>∃c,e = .returned (.pointer (some ⟨c,0,none⟩))/\w.heap.size<=c/\cj w' c A n cap/\Below w.heap.size w w':=by
 go_enter Tryz.func27,Tryz.ntmps27;go_wp2_with fail
 go_loopw [3,4] (λx i wr=>∃(q:Int) (k:Nat),x = .int .i64 q/\i = .int .i64 k/\(0<=q/\q<=1073741823)/\k<=n/\(k:Int)<=4000/\Below w.heap.size w wr) (λ_ i _=>n - (intOf i).toNat)
 case atStart=>exact ⟨94701+n,0,ve,rfl,J,Nat.zero_le _,J,aj _⟩
 case round =>
  obtain ⟨q,k,rfl,rfl,⟨YI,lz⟩,hkn,hk4,hb⟩:=hrel;by_cases hk:k < n
  ·obtain ⟨g,o,v,rfl,hg,hv,hJ,te⟩:=cL k hk;have hvw:wr.cell? ⟨g,o+k,none⟩ = some (.int .u8 v):=r' hb hv hg;have fR:(n:Int)<=cap∨True:=.inr trivial;by_cases hk5:(k:Int) < 4000
   ·have PL:(k:Int) < n:=J;go_wp2;exact ⟨⟨_,k+1,rfl,N',Uj _ 1073741823 (by decide),J,J,hb⟩,by simp only [intOf];omega⟩
   ·have PL:(k:Int) < n:=J;exact Ms
  ·have PL:¬(k:Int) < n:=J;exact Ms
end Go.Proofs.YtjahcnjmjahbaaaGreat
