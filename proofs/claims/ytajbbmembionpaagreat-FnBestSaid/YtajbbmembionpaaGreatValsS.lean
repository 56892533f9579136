/- l15Values of the reference. No condition. -/
import Derived.Test.YtajbbmembionpaaGreatUsedP
import Derived.Test.YtajbbmembionpaaGreatCpP
import Derived.Test.YtajbbmembionpaaGreatDrawB
namespace Go.Proofs.YtajbbmembionpaaGreat
open Go.ChangeShapes Go.WideShapes Go.ChangeAt Go.RowKit
set_option linter.unusedVariables false
set_option linter.unusedSimpArgs false
set_option maxHeartbeats 8000000
set_option maxRecDepth 100000
theorem aEt (D:List ByteArray) {w:World} {B e g cap:Nat} (h:w.ownsRow B e 1 (.slice (some ⟨g,0,none⟩) D.length cap) D.length (D.map Value.string)) (hr:∀x∈D,rd w x [.string x] []):∃A c G,Value.slice (some ⟨g,0,none⟩) D.length cap = .slice A D.length c∧am w B D [.slice A D.length c] G:=by
 have dq:∀D:List ByteArray,(∀x∈D,rd w x [.string x] [])→jo w D (D.map Value.string) []:=fun D=>by
  induction D with
  | nil=>intro _;exact ⟨rfl,rfl⟩
  | cons x D ih=>intro hD;exact ⟨[.string x],D.map Value.string,[],[],rfl,rfl,hD x (List.mem_cons_self ..),ih fun y hy=>hD y (List.mem_cons_of_mem _ hy)⟩
 exact G9
theorem WA (xs:List ByteArray) (A:Option Addr) (c:Nat) (F:List Nat) (w:World) (h:Sl w xs A c F) (hl:(xs.length:Int)≤1048576) :
 Calls Tryz.prog 76 #[.slice A xs.length c] w fun e w'=>∃A' c' G,e = .returned (.slice A' (gH xs).length c')∧am w' w.heap.size (gH xs) [.slice A' (gH xs).length c'] G∧Below w.heap.size w w'∧er w' w.heap.size 9 1 A' c':=by
 have ru:=I (show ∀x∈xs,∀w':World,rd w' x [.string x] [] from fun x hx w'=>by
  obtain ⟨k,hk,rfl⟩:=List.getElem_of_mem hx;obtain ⟨b,o,ck,Fk,_,_,_,hr,_,_⟩:=h.get hk;obtain ⟨h1,h2,h3⟩:=hr
  exact ⟨rfl,rfl,h3⟩)
 go_enter Tryz.func76,Tryz.ntmps76;go_wp2_with fail
 go_loopw [3,4] (fun v i wr=>∃k N g cap:Nat,k≤xs.length∧N≤k∧i = .int .i64 (k:Int)∧v = .slice (some ⟨g,0,none⟩) N cap∧Hid ((gH (xs.take k)).length = N)∧wr.ownsRow w.heap.size 9 1 (.slice (some ⟨g,0,none⟩) N cap) N ((gH (xs.take k)).map Value.string)∧Below w.heap.size w wr) (fun _ i _=>xs.length - (intOf i).toNat)
 case atStart=>exact ⟨0,0,w.heap.size,0,J,Nat.le_refl _,rfl,rfl,I rfl,D9 w 9 1 w.heap.size rfl,ak (aj _) _⟩
 case round =>
  obtain ⟨k,N,g,cap,hk,hNk,rfl,rfl,cT,bk,ax⟩:=hrel;by_cases aq:k < xs.length
  ·obtain ⟨wo,hwo⟩:∃wo,wo = wr:=⟨_,rfl⟩;subst hwo;obtain ⟨b,o,ck,Fk,hA,hbG,bc,aJe,_,hcells⟩:=Sl.get h aq;subst hA;have fb:gH (xs.take (k+1)) = eK blt xs[k] (gH (xs.take k)):=(by unfold gH;rw [List.take_succ_eq_append_getElem aq,DG]);obtain ⟨y,hy⟩:∃y,xs[k] = y:=⟨_,rfl⟩;rw [hy] at aJe fb;obtain ⟨aw,_,_⟩:=aJe;subst aw;have k0:wo.cell? ⟨b,o+k,none⟩ = some (.string y):=r' ax (by have:=hcells 0 _ rfl;simpa [show ba.size ByteArray = 1 from rfl] using this) bc;have Jf:=I fb;clear hcells hy fb;generalize gH (xs.take k) = SS at *;obtain ⟨kz,ev,o7,hgc⟩:=IE bk;have MS:w.heap.size≤wo.heap.size:=ax.size;have eZ:b < wo.heap.size:=J;have lL:=I hgc;have ir:=I bk;have e':=I ax;clear hgc bk ax;go_wp2_with fail
   go_loopw [5] (fun j wr=>∃(s1 s2:List ByteArray) (jj:Nat),Hid (SS = s1++s2)∧j = .int .i64 (jj:Int)∧Hid (s1.length = jj)∧Hid (∀z∈s1,blt z y = true)∧Below wo.heap.size wo wr) (fun j _=>N - (intOf j).toNat)
   case atStart=>exact ⟨[],SS,0,I rfl,rfl,I rfl,I (fun z hz=>by cases hz),aj _⟩
   case round =>
    obtain ⟨s1,s2,jj,HE,rfl,HJ,HN,bF⟩:=hrel;have mc:∀bq oq u,wo.cell? ⟨bq,oq,none⟩ = some u→bq < wo.heap.size→wr.cell? ⟨bq,oq,none⟩ = some u:=fun bq oq u h1 h2=>(bF.cell (p:=⟨bq,oq,none⟩) h2).trans h1;replace k0:=mc _ _ _ k0 eZ;have MC:=I mc;have mo:wo.heap.size≤wr.heap.size:=bF.size;have nX:b < wr.heap.size:=J;have mB:g < wr.heap.size:=J;clear mc;cases s2 with
    | nil =>
      have gh:jj = N:=(by have e1:=HE.out;have e2:=cT.out;have e3:=HJ.out;rw [e1,List.append_nil] at e2;omega);have pI:N≤jj:=J;have pJ:decide ((jj:Int) < (N:Int)) = false:=(by simp;omega);have pL:decide (jj < N) = false:=(by simp;omega);clear gh;have HI:=I (show eK blt y (SS) = s1++y :: [] by rw [HE.out];exact LN s1 HN.out);go_wp2_with fail
      refine aF wr U' U' (aj _) ?_
      repeat ((first | refine aG O ?_ | refine aH _ O dE ?_);simp only [Act.put,pz])
      refine aN ?_;intro wm hn;replace hn:=hn.out;have gT:Below wo.heap.size wo wm:=ah bF hn;have i7:g < wm.heap.size:=(by have:=hn.size;omega);have i':b < wm.heap.size:=(by have:=hn.size;omega);replace k0:=r' hn k0 ew;clear bF hn;obtain ⟨bF,nX,mB⟩:Below wo.heap.size wo wm∧b < wm.heap.size∧g < wm.heap.size:=⟨gT,i',i7⟩;clear gT i' i7;go_wp2_with fail
      refine aF wm U' U' (aj _) ?_
      repeat ((first | refine aG O ?_ | refine aH _ O dE ?_);simp only [Act.put,pz])
      refine aN ?_;intro wn hn;replace hn:=hn.out;have bw:Below wo.heap.size wo wn:=ah bF hn;have l7:=I (show Below w.heap.size w wn from ah e'.out bw);have RJ:=mG ir.out bw;obtain ⟨_,fa,apy,V4⟩:=IE RJ
      have ey:=I (show ∀q u,((s1).map Value.string)[q]? = some u→wn.cell? ((⟨g,0,none⟩:Addr).add q) = some u from fun q u hu=>by
       rw [Addr.add_lit,Nat.zero_add];refine V4 q u ?_
       rw [HE.out,List.map_append,List.getElem?_append_left (List.getElem?_eq_some_iff.1 hu).1];exact hu)
      have Gn:=I (show ∀q u,((([]:List ByteArray)).map Value.string)[q]? = some u→wn.cell? ⟨g,jj+q,none⟩ = some u from fun q u hu=>by
       refine V4 (jj+q) u ?_
       rw [HE.out,List.map_append,List.getElem?_append_right z6,List.length_map,HJ.out,Nat.add_sub_cancel_left];exact hu)
      have cK:jj+(([]:List ByteArray)).length = N:=(by have e1:=congrArg List.length HE.out;have e2:=cT.out;have e3:=HJ.out;rw [List.length_append] at e1;omega);have oL:jj≤N:=J;have pa:jj≤cap:=J;replace k0:=r' hn k0 ew;have pb:b < wn.heap.size:=(by have:=hn.size;omega);have im:=I cK;have ka:=I bw;clear RJ V4 cK bw;go_wp2_with fail
      refine zU wn 12 U' U' (aj _) ?_;refine YU (fun a0 a' w'=>∃(g9 p9:Nat) (da db dc dd de df dh dt eA eB:Value),a' = (Act.put (Act.put (Act.put (Act.put (Act.put (Act.put (Act.put (Act.put (Act.put (Act.put (Act.put (Act.put a0 (some 46) (da)) (some 47) (db)) (some 48) (dc)) (some 49) (dd)) (some 50) (de)) (some 51) (df)) (some 52) (dh)) (some 53) (dt)) (some 54) (eA)) (some 55) (eB)) (some 56) (.slice (some ⟨g9,0,none⟩) (jj+1) p9)) (some 6) (.slice (some ⟨g9,0,none⟩) (jj+1) p9))∧Below wn.heap.size wn w'∧World.ownsRow w' wn.heap.size 9 1 (.slice (some ⟨g9,0,none⟩) (jj+1) p9) (jj+1) (((s1).map Value.string)++[.string y])) ?_ ?_;rotate_left
      ·exact Hp
      intro a' w7 fr;obtain ⟨g9,p9,da,db,dc,dd,de,df,dh,dt,eA,eB,rfl,bz,nK⟩:=fr;try simp only [Act.put,pz]
      have cE:∃A0:Addr,(if cap = jj then some (⟨g,0,none⟩:Addr) else some ⟨g,jj,none⟩) = some A0∧Hid (A0.block = g∧∀q u,((([]:List ByteArray)).map Value.string)[q]? = some u→w7.cell? (A0.add q) = some u):=by exact Ix
      obtain ⟨A0,hA0,asg⟩:=cE;have bB:N - jj = (([]:List ByteArray)).length:=(by have:=im.out;omega);have l':=I bB;clear bB
      go_wp2_with (
       at_builtin
       go_must (refine xW qw O _ _ O w7 wn.heap.size _ _ _ nK O A0 0 (cap - jj) ((([]:List ByteArray)).map Value.string) O O asg.out.2 (fun u hu=>by obtain ⟨z0,_,rfl⟩:=List.mem_map.1 hu;rfl) J J lB ?_)
       intro v8 w8 Le cN kb;rw [show jj+1+0 = N+1 by omega] at Le;obtain ⟨g8,p8,hv8,aJs,aJt,aJu⟩:=wW Le J
       subst hv8)
      exact Ih
    | cons z s2 =>
      have gh:jj < N:=(by have e1:=congrArg List.length HE.out;have e2:=cT.out;have e3:=HJ.out;rw [List.length_append,List.length_cons] at e1;omega);have z0:wr.cell? ⟨g,jj,none⟩ = some (.string z):=MC.out _ _ _ (lL.out jj _ O0) ev;have pJ:decide ((jj:Int) < (N:Int)) = true:=(by simp;omega);cases hL:Op.bytesLess z.toList y.toList with
      | true =>have HL:=I (show blt z y = true from hL);exact Hz
      | false =>
        have HL:=I (show blt z y = false from hL);go_wp2_with fail
        refine aF wr U' U' (aj _) ?_
        repeat ((first | refine aG O ?_ | refine aH _ O dE ?_);simp only [Act.put,pz])
        refine aN ?_;intro wm hn;replace hn:=hn.out;have gT:Below wo.heap.size wo wm:=ah bF hn;have i7:g < wm.heap.size:=(by have:=hn.size;omega);have i':b < wm.heap.size:=(by have:=hn.size;omega);replace k0:=r' hn k0 ew;replace z0:=r' hn z0 rB;clear bF hn;obtain ⟨bF,nX,mB⟩:Below wo.heap.size wo wm∧b < wm.heap.size∧g < wm.heap.size:=⟨gT,i',i7⟩;clear gT i' i7;clear hL;cases hE:(z.toList == y.toList) with
        | true =>
          have HI:=I (show eK blt y (SS) = SS by rw [HE.out];exact LP s1 s2 HN.out HL.out (by rw [Ce hE];exact AT.pp y));go_wp2_with fail
          refine aF wm U' U' (aj _) ?_
          repeat ((first | refine aG O ?_ | refine aH _ O dE ?_);simp only [Act.put,pz])
          refine aN ?_;intro wn hn;replace hn:=hn.out;exact FM
        | false =>
          have HG:=I (show blt y z = true by
           cases hh:blt y z with
           | true=>rfl
           | false=>have:=AT.LK z y HL.out hh;rw [this] at hE;simp at hE)
          have HI:=I (show eK blt y (SS) = s1++y :: (z :: s2) by rw [HE.out];exact LO s1 s2 HN.out HL.out HG.out);go_wp2_with fail
          refine aF wm U' U' (aj _) ?_
          repeat ((first | refine aG O ?_ | refine aH _ O dE ?_);simp only [Act.put,pz])
          refine aN ?_;intro wn hn;replace hn:=hn.out;clear hE;have bw:Below wo.heap.size wo wn:=ah bF hn;have l7:=I (show Below w.heap.size w wn from ah e'.out bw);have RJ:=mG ir.out bw;obtain ⟨_,fa,apy,V4⟩:=IE RJ
          have ey:=I (show ∀q u,((s1).map Value.string)[q]? = some u→wn.cell? ((⟨g,0,none⟩:Addr).add q) = some u from fun q u hu=>by
           rw [Addr.add_lit,Nat.zero_add];refine V4 q u ?_
           rw [HE.out,List.map_append,List.getElem?_append_left (List.getElem?_eq_some_iff.1 hu).1];exact hu)
          have Gn:=I (show ∀q u,((z :: s2).map Value.string)[q]? = some u→wn.cell? ⟨g,jj+q,none⟩ = some u from fun q u hu=>by
           refine V4 (jj+q) u ?_
           rw [HE.out,List.map_append,List.getElem?_append_right z6,List.length_map,HJ.out,Nat.add_sub_cancel_left];exact hu)
          have cK:jj+(z :: s2).length = N:=(by have e1:=congrArg List.length HE.out;have e2:=cT.out;have e3:=HJ.out;rw [List.length_append] at e1;omega);have oL:jj≤N:=J;have pa:jj≤cap:=J;have MT:¬cap = jj:=J;replace k0:=r' hn k0 ew;have pb:b < wn.heap.size:=(by have:=hn.size;omega);have im:=I cK;have ka:=I bw;clear RJ V4 cK bw;go_wp2_with fail
          refine zU wn 12 U' U' (aj _) ?_;refine YU (fun a0 a' w'=>∃(g9 p9:Nat) (da db dc dd de df dh dt eA eB:Value),a' = (Act.put (Act.put (Act.put (Act.put (Act.put (Act.put (Act.put (Act.put (Act.put (Act.put (Act.put (Act.put a0 (some 46) (da)) (some 47) (db)) (some 48) (dc)) (some 49) (dd)) (some 50) (de)) (some 51) (df)) (some 52) (dh)) (some 53) (dt)) (some 54) (eA)) (some 55) (eB)) (some 56) (.slice (some ⟨g9,0,none⟩) (jj+1) p9)) (some 6) (.slice (some ⟨g9,0,none⟩) (jj+1) p9))∧Below wn.heap.size wn w'∧World.ownsRow w' wn.heap.size 9 1 (.slice (some ⟨g9,0,none⟩) (jj+1) p9) (jj+1) (((s1).map Value.string)++[.string y])) ?_ ?_;rotate_left
          ·exact Hp
          intro a' w7 fr;obtain ⟨g9,p9,da,db,dc,dd,de,df,dh,dt,eA,eB,rfl,bz,nK⟩:=fr;try simp only [Act.put,pz]
          have bB:N - jj = (z :: s2).length:=(by have:=im.out;omega);have l':=I bB;clear bB
          go_wp2_with (
           at_builtin
           go_must (refine xW qw O _ _ O w7 wn.heap.size _ _ _ nK O ⟨g,jj,none⟩ (N - jj) (cap - jj) ((z :: s2).map Value.string) O Ms (fun q u hu=>by rw [Addr.add_lit];exact (bz.cell (p:=⟨g,jj+q,none⟩) fa).trans (Gn.out q u hu)) (fun u hu=>by obtain ⟨z0,_,rfl⟩:=List.mem_map.1 hu;rfl) J J lB ?_)
           intro v8 w8 Le cN kb;rw [show jj+1+(N - jj) = N+1 by omega] at Le;obtain ⟨g8,p8,hv8,aJs,aJt,aJu⟩:=wW Le J
           subst hv8)
          exact Ih
  ·have bB:k = xs.length:=J;subst bB;rw [List.take_length] at bk cT;rw [← cT.out] at bk;obtain ⟨A4,c4,G4,hv4,hO4⟩:=aEt (gH xs) bk (fun x hx=>ru.out x (Wr hx) wr);rw [cT.out] at hv4;simp only [Value.slice.injEq,true_and] at hv4;obtain ⟨r8,fh⟩:=hv4;subst r8 fh;have lz:=I hO4;have l8:=I (er.oJ bk (Nat.le_refl _));clear bk hO4;go_wp2;go_ret
   exact ⟨some ⟨g,0,none⟩,cap,G4,by rw [cT.out];try rfl,lz.out,ax,l8.out⟩
theorem aAw (xs:List ByteArray) (A:Option Addr) (c:Nat) (F:List Nat) (w:World) (h:Sl w xs A c F) (hl:(xs.length:Int)≤1048576) :
 Calls Tryz.prog 76 #[.slice A xs.length c] w fun e w'=>∃A' c' G,e = .returned (.slice A' (gH xs).length c')∧am w' w.heap.size (gH xs) [.slice A' (gH xs).length c'] G∧Below w.heap.size w w' :=
 (WA xs A c F w h hl).mono fun _ _ ⟨A',c',G,a,b,d,_⟩=>⟨A',c',G,a,b,d⟩
def qG (a b:Int):Int:=(GX a b).getD 9223372036854775807
theorem Ru {a b:Int} (ha:bp a) (hb:bp b):bp (qG a b):=by
 unfold qG;cases h:GX a b with
 | none=>exact ⟨by show _≤(9223372036854775807:Int);omega,by show (9223372036854775807:Int)≤_;omega⟩
 | some t=>exact MH h ha hb
def OT (nm:ByteArray) (x:aU) (p:nI):Int :=
 if pK (iM nm) x.aa < 0 then 0 else
 match vU (F7 nm x.au),x.aa[(pK (iM nm) x.aa).toNat]? with
 | some (a,b),some h=>(CQ (qG a p.av) h.av+CQ (qG b p.mem) h.mem) / 2
 | _,_=>0
def EF (nm:ByteArray) (x:aU):Int :=
 if pK (iM nm) x.aa < 0 then 0 else
 match vU (F7 nm x.au),x.aa[(pK (iM nm) x.aa).toNat]? with
 | some (a,b),some h=>100 - CQ (F7 nm x.au).length h.slots
 | _,_=>0
theorem Xu {nm:ByteArray} {x:aU} {p:nI} (h:pK (iM nm) x.aa = -1):OT nm x p = 0:=by unfold OT;rw [h];rfl
theorem Xy {nm:ByteArray} {x:aU} {p:nI} (h:vU (F7 nm x.au) = none):OT nm x p = 0:=by unfold OT;rw [h];simp
theorem Xz {nm:ByteArray} {x:aU} {p:nI} {k:Nat} {a b:Int} (hk:k < x.aa.length) (h:pK (iM nm) x.aa = k) (hs:vU (F7 nm x.au) = some (a,b)):OT nm x p = (CQ (qG a p.av) x.aa[k].av+CQ (qG b p.mem) x.aa[k].mem) / 2:=by
 unfold OT;exact zF
theorem XC {nm:ByteArray} {x:aU} (h:pK (iM nm) x.aa = -1):EF nm x = 0:=by unfold EF;rw [h];rfl
theorem XD {nm:ByteArray} {x:aU} (h:vU (F7 nm x.au) = none):EF nm x = 0:=by unfold EF;rw [h];simp
theorem XE {nm:ByteArray} {x:aU} {k:Nat} {a b:Int} (hk:k < x.aa.length) (h:pK (iM nm) x.aa = k) (hs:vU (F7 nm x.au) = some (a,b)):EF nm x = 100 - CQ (F7 nm x.au).length x.aa[k].slots:=by
 unfold EF;exact zF
theorem XF (nm:ByteArray) (x:aU) (p:nI):0≤OT nm x p∧OT nm x p≤100:=by
 unfold OT;split
 ·omega
 ·split
  ·rename_i a b h _ _;have h1:=zJ (qG a p.av) h.av;have h2:=zJ (qG b p.mem) h.mem;omega
  ·omega
theorem ZO (nm:ByteArray) (x:aU):0≤EF nm x∧EF nm x≤100:=by
 unfold EF;split
 ·omega
 ·split
  ·rename_i a b h _ _;have h1:=zJ (F7 nm x.au).length h.slots;omega
  ·omega
theorem aex (x:aU) (p:nI) (cs ps:List Value) (F G:List Nat) (nm:ByteArray) (w:World) (h:rd w x cs F) (h':rd w p ps G) (hw:(x.wt:Int)≤1048576) (eh:(p.wt:Int)≤1048576) :
 Calls Tryz.prog 25 #[.agg cs.toArray,.string nm,.agg ps.toArray] w fun e w'=>e = .returned (.int .i64 (EF nm x))∧Below w.heap.size w w':=by
 have gE:x.wt = kL aM.wt x.aa+kL af.wt x.au:=rfl;have bR:(x.aa.length:Int)≤1048576:=by have:=gJ aM.wt x.aa;omega
 have vk:(x.au.length:Int)≤1048576:=by have:=gJ af.wt x.au;omega
 have hr:=h;have cI:=h';obtain ⟨bG,bD,fQ,dn,bW,jg,aw,hF,bQ,dM,hnext,aV,aP,aW⟩:=aO hr;obtain ⟨bY,bZ,iq,eU,eX,jV,bg,bn,dK,jU,hG,jW,dA,kQ,lg,lG,iO,bK⟩:=dL cI;subst aw jU;clear hF hG hr cI;rcases yg (iM nm) x.aa with hi | ⟨k,hk,hi⟩
 ·have HF:=I (XC  hi);have HI:=I hi;clear hi;cases hs:vU (F7 nm x.au) with
  | none =>have HU:=I (AV hs);exact zP
  | some ab =>obtain ⟨a,b⟩:=ab;have HU:=I (AX hs);exact zP
 ·cases hs:vU (F7 nm x.au) with
  | none =>have HF:=I (XD  hs);have HI:=I hi;clear hi;have HU:=I (AV hs);exact zP
  | some ab =>
    obtain ⟨a,b⟩:=ab;have cQ:=XE  hk hi hs;obtain ⟨ha,hb⟩:=UD (A:=dn) (c:=bW) dM hs;have HI:=I hi;clear hi;have HU:=I (AX hs);clear hs;have hL:=NK nm x.au;generalize (F7 nm x.au).length = L at cQ HU hL;have AI:(L:Int)≤1048576:=J;clear hL;obtain ⟨bh,o,ck,Fk,rfl,o9,bc,hr,bv,hc⟩:=Sl.get (α:=aM) (A:=bG) (c:=bD) bQ hk;obtain ⟨jM,jO,sN,jE,jF,sO,aw,su,zM,qY,Gt,Gw,xg,qA⟩:=iy hr;subst aw;obtain ⟨q0,q1,q2,q3,q4,q5⟩:=nU 6 hc;clear hc;obtain ⟨S1,fg⟩:∃S,CQ (L:Int) x.aa[k].slots = S:=⟨_,rfl⟩;have dj:=zJ (L:Int) x.aa[k].slots;rw [fg] at cQ dj;have HF:=I cQ;have CK:=I fg;clear cQ fg;have hLI:bp (L:Int):=(by unfold bp;omega);have mL:IntKind.i64.wrap (100 - S1) = 100 - S1:=(by rw [IntKind.wrap_i64];omega);go_enter Tryz.func25,Tryz.ntmps25;go_wp2_with fail
    refine (gK x _ _ nm _ (aJ h bx) bR).mono ?_;rw [HI.out];rintro e w2 ⟨rfl,ap⟩;obtain ⟨bX,cG⟩:=ay ap;have cj:w.heap.size < w2.heap.size:=(sq ap.size);have kn:w.heap.size+1 < w2.heap.size:=(sq ap.size);have eg:Below w.heap.size w w2:=bx;go_wp2_with fail
    refine (iQ x _ _ nm _ (aJ h bx) vk).mono ?_;rw [HU.out];rintro e w3 ⟨rfl,aR⟩;obtain ⟨dk,hf3⟩:=ay aR;have cW:w.heap.size < w3.heap.size:=(sq aR.size);have uc:w.heap.size+1 < w3.heap.size:=(sq aR.size);have di:Below w.heap.size w w3:=ah eg aR;replace q0:=r' di q0 bc;replace q1:=r' di q1 bc;replace q2:=r' di q2 bc;replace q3:=r' di q3 bc;replace q4:=r' di q4 bc;replace q5:=r' di q5 bc;have jd:bh < w3.heap.size:=(by have:=di.size;omega);go_wp2_with fail
    refine (VD _ _ _ tt tt).mono ?_;exact GM
theorem aey (x:aU) (p:nI) (cs ps:List Value) (F G:List Nat) (nm:ByteArray) (w:World) (h:rd w x cs F) (h':rd w p ps G) (hw:(x.wt:Int)≤1048576) (eh:(p.wt:Int)≤1048576) :
 Calls Tryz.prog 101 #[.agg cs.toArray,.string nm,.agg ps.toArray] w fun e w'=>e = .returned (.int .i64 (EF nm x))∧Below w.heap.size w w':=by
 have gE:x.wt = kL aM.wt x.aa+kL af.wt x.au:=rfl;have bR:(x.aa.length:Int)≤1048576:=by have:=gJ aM.wt x.aa;omega
 have vk:(x.au.length:Int)≤1048576:=by have:=gJ af.wt x.au;omega
 have hr:=h;have cI:=h';obtain ⟨bG,bD,fQ,dn,bW,jg,aw,hF,bQ,dM,hnext,aV,aP,aW⟩:=aO hr;obtain ⟨bY,bZ,iq,eU,eX,jV,bg,bn,dK,jU,hG,jW,dA,kQ,lg,lG,iO,bK⟩:=dL cI;subst aw jU;clear hF hG hr cI;rcases yg (iM nm) x.aa with hi | ⟨k,hk,hi⟩
 ·have HF:=I (XC  hi);have HI:=I hi;clear hi;cases hs:vU (F7 nm x.au) with
  | none =>have HU:=I (AV hs);exact zK
  | some ab =>obtain ⟨a,b⟩:=ab;have HU:=I (AX hs);exact zK
 ·cases hs:vU (F7 nm x.au) with
  | none =>have HF:=I (XD  hs);have HI:=I hi;clear hi;have HU:=I (AV hs);exact zK
  | some ab =>
    obtain ⟨a,b⟩:=ab;have cQ:=XE  hk hi hs;obtain ⟨ha,hb⟩:=UD (A:=dn) (c:=bW) dM hs;have HI:=I hi;clear hi;have HU:=I (AX hs);clear hs;have hL:=NK nm x.au;generalize (F7 nm x.au).length = L at cQ HU hL;have AI:(L:Int)≤1048576:=J;clear hL;obtain ⟨bh,o,ck,Fk,rfl,o9,bc,hr,bv,hc⟩:=Sl.get (α:=aM) (A:=bG) (c:=bD) bQ hk;obtain ⟨jM,jO,sN,jE,jF,sO,aw,su,zM,qY,Gt,Gw,xg,qA⟩:=iy hr;subst aw;obtain ⟨q0,q1,q2,q3,q4,q5⟩:=nU 6 hc;clear hc;obtain ⟨S1,fg⟩:∃S,CQ (L:Int) x.aa[k].slots = S:=⟨_,rfl⟩;have dj:=zJ (L:Int) x.aa[k].slots;rw [fg] at cQ dj;have HF:=I cQ;have CK:=I fg;clear cQ fg;have hLI:bp (L:Int):=(by unfold bp;omega);have mL:IntKind.i64.wrap (100 - S1) = 100 - S1:=(by rw [IntKind.wrap_i64];omega);go_enter Tryz.func101,Tryz.ntmps101;go_wp2_with fail
    refine (gQ x _ _ nm _ (aJ h bx) bR).mono ?_;rw [HI.out];rintro e w2 ⟨rfl,ap⟩;obtain ⟨bX,cG⟩:=ay ap;have cj:w.heap.size < w2.heap.size:=(sq ap.size);have kn:w.heap.size+1 < w2.heap.size:=(sq ap.size);have eg:Below w.heap.size w w2:=bx;go_wp2_with fail
    refine (jm x _ _ nm _ (aJ h bx) vk).mono ?_;rw [HU.out];rintro e w3 ⟨rfl,aR⟩;obtain ⟨dk,hf3⟩:=ay aR;have cW:w.heap.size < w3.heap.size:=(sq aR.size);have uc:w.heap.size+1 < w3.heap.size:=(sq aR.size);have di:Below w.heap.size w w3:=ah eg aR;replace q0:=r' di q0 bc;replace q1:=r' di q1 bc;replace q2:=r' di q2 bc;replace q3:=r' di q3 bc;replace q4:=r' di q4 bc;replace q5:=r' di q5 bc;have jd:bh < w3.heap.size:=(by have:=di.size;omega);go_wp2_with fail
    refine (IB _ _ _ tt tt).mono ?_;exact GM
theorem ag2 (a b:Int) (w:World) (ha:bp a) (hb:bp b):Calls Tryz.prog 57 #[.int .i64 a,.int .i64 b] w fun e w'=>e = .returned (.int .i64 (qG a b))∧Below w.heap.size w w':=by
 cases h:GX a b with
 | none =>have HF:=I (show qG a b = 9223372036854775807 by unfold qG;rw [h];rfl);have HA:=I h;go_enter Tryz.func57,Tryz.ntmps57;exact uQ
 | some s =>have HF:=I (show qG a b = s by unfold qG;rw [h];rfl);have HA:=I h;go_enter Tryz.func57,Tryz.ntmps57;exact uQ
theorem ZA (x:aU) (p:nI) (cs ps:List Value) (F G:List Nat) (nm:ByteArray) (w:World) (h:rd w x cs F) (h':rd w p ps G) (hw:(x.wt:Int)≤1048576) (eh:(p.wt:Int)≤1048576) :
 Calls Tryz.prog 24 #[.agg cs.toArray,.string nm,.agg ps.toArray] w fun e w'=>e = .returned (.int .i64 (OT nm x p))∧Below w.heap.size w w':=by
 have gE:x.wt = kL aM.wt x.aa+kL af.wt x.au:=rfl;have bR:(x.aa.length:Int)≤1048576:=by have:=gJ aM.wt x.aa;omega
 have vk:(x.au.length:Int)≤1048576:=by have:=gJ af.wt x.au;omega
 have hr:=h;have cI:=h';obtain ⟨bG,bD,fQ,dn,bW,jg,aw,hF,bQ,dM,hnext,aV,aP,aW⟩:=aO hr;obtain ⟨bY,bZ,iq,eU,eX,jV,bg,bn,dK,jU,hG,jW,dA,kQ,lg,lG,iO,bK⟩:=dL cI;subst aw jU;clear hF hG hr cI;rcases yg (iM nm) x.aa with hi | ⟨k,hk,hi⟩
 ·have HF:=I (Xu (p:=p) hi);have HI:=I hi;clear hi;cases hs:vU (F7 nm x.au) with
  | none =>have HU:=I (AV hs);exact zN
  | some ab =>obtain ⟨a,b⟩:=ab;have HU:=I (AX hs);exact zN
 ·cases hs:vU (F7 nm x.au) with
  | none =>have HF:=I (Xy (p:=p) hs);have HI:=I hi;clear hi;have HU:=I (AV hs);exact zN
  | some ab =>
    obtain ⟨a,b⟩:=ab;have cQ:=Xz (p:=p) hk hi hs;obtain ⟨ha,hb⟩:=UD (A:=dn) (c:=bW) dM hs;have HI:=I hi;clear hi;have HU:=I (AX hs);clear hs;have hL:=NK nm x.au;generalize (F7 nm x.au).length = L at cQ HU hL;have AI:(L:Int)≤1048576:=J;clear hL;obtain ⟨bh,o,ck,Fk,rfl,o9,bc,hr,bv,hc⟩:=Sl.get (α:=aM) (A:=bG) (c:=bD) bQ hk;obtain ⟨jM,jO,sN,jE,jF,sO,aw,su,zM,qY,Gt,Gw,xg,qA⟩:=iy hr;subst aw;obtain ⟨q0,q1,q2,q3,q4,q5⟩:=nU 6 hc;clear hc;obtain ⟨S1,fg⟩:∃S,CQ (qG a p.av) x.aa[k].av = S:=⟨_,rfl⟩;obtain ⟨S2,ce⟩:∃S,CQ (qG b p.mem) x.aa[k].mem = S:=⟨_,rfl⟩;have dj:=zJ (qG a p.av) x.aa[k].av;have fR:=zJ (qG b p.mem) x.aa[k].mem;have o5:=Ru ha kQ;have nQ:=Ru hb lg;rw [fg,ce] at cQ;rw [fg] at dj;rw [ce] at fR;have HF:=I cQ;clear cQ;have mL:IntKind.i64.wrap (S1+S2) = S1+S2:=(by rw [IntKind.wrap_i64];omega);have vK:=I (show IntKind.i64.wrap ((S1+S2).tdiv 2) = (S1+S2) / 2 by rw [Int.tdiv_eq_ediv_of_nonneg J,IntKind.wrap_i64];omega);have CK:=I fg;have NY:=I ce;clear fg ce;go_enter Tryz.func24,Tryz.ntmps24;go_wp2_with fail
    refine (gK x _ _ nm _ (aJ h bx) bR).mono ?_;rw [HI.out];rintro e w2 ⟨rfl,ap⟩;obtain ⟨bX,cG⟩:=ay ap;have cj:w.heap.size < w2.heap.size:=(sq ap.size);have kn:w.heap.size+1 < w2.heap.size:=(sq ap.size);have eg:Below w.heap.size w w2:=bx;go_wp2_with fail
    refine (iQ x _ _ nm _ (aJ h bx) vk).mono ?_;rw [HU.out];rintro e w3 ⟨rfl,aR⟩;obtain ⟨dk,hf3⟩:=ay aR;have cW:w.heap.size < w3.heap.size:=(sq aR.size);have uc:w.heap.size+1 < w3.heap.size:=(sq aR.size);have di:Below w.heap.size w w3:=ah eg aR;replace q0:=r' di q0 bc;replace q1:=r' di q1 bc;replace q2:=r' di q2 bc;replace q3:=r' di q3 bc;replace q4:=r' di q4 bc;replace q5:=r' di q5 bc;have jd:bh < w3.heap.size:=(by have:=di.size;omega);go_wp2_with fail
    refine aF w3 U' U' (aj _) ?_
    repeat (first
     | (apply aG
        case hw=>rfl
        simp only [Act.put,pz])
     | (apply aH
        case hw=>rfl
        case h =>
         intro wq hq;have dC:=(aB hq).1;have lJ:=(aB hq).2;go_simp
         first
          | exact ⟨hq,rfl⟩
          | exact ⟨aQ hq _,rfl⟩
          | (first | (refine (ag2 _ _ _ tt tt).mono ?_;rintro e wz ⟨rfl,nV⟩;exact ⟨rfl,aI hq nV⟩) | (refine (VD _ _ _ tt tt).mono ?_;(first | rw [CK.out] | rw [NY.out]);rintro e wz ⟨rfl,nV⟩;exact ⟨rfl,aI hq nV⟩))
          | (simp only [↓IntWalk.iteOmega];exact ⟨hq,rfl⟩)
        simp only [Act.put,pz]))
    refine aN ?_;intro wn hn;replace hn:=hn.out;go_wp2;go_ret
    exact ⟨by rw [HF.out];first | rfl | (simp;exact vK.out),ah di hn⟩
theorem Zz (x:aU) (p:nI) (cs ps:List Value) (F G:List Nat) (nm:ByteArray) (w:World) (h:rd w x cs F) (h':rd w p ps G) (hw:(x.wt:Int)≤1048576) (eh:(p.wt:Int)≤1048576) :
 Calls Tryz.prog 100 #[.agg cs.toArray,.string nm,.agg ps.toArray] w fun e w'=>e = .returned (.int .i64 (OT nm x p))∧Below w.heap.size w w':=by
 have gE:x.wt = kL aM.wt x.aa+kL af.wt x.au:=rfl;have bR:(x.aa.length:Int)≤1048576:=by have:=gJ aM.wt x.aa;omega
 have vk:(x.au.length:Int)≤1048576:=by have:=gJ af.wt x.au;omega
 have hr:=h;have cI:=h';obtain ⟨bG,bD,fQ,dn,bW,jg,aw,hF,bQ,dM,hnext,aV,aP,aW⟩:=aO hr;obtain ⟨bY,bZ,iq,eU,eX,jV,bg,bn,dK,jU,hG,jW,dA,kQ,lg,lG,iO,bK⟩:=dL cI;subst aw jU;clear hF hG hr cI;rcases yg (iM nm) x.aa with hi | ⟨k,hk,hi⟩
 ·have HF:=I (Xu (p:=p) hi);have HI:=I hi;clear hi;cases hs:vU (F7 nm x.au) with
  | none =>have HU:=I (AV hs);exact zI
  | some ab =>obtain ⟨a,b⟩:=ab;have HU:=I (AX hs);exact zI
 ·cases hs:vU (F7 nm x.au) with
  | none =>have HF:=I (Xy (p:=p) hs);have HI:=I hi;clear hi;have HU:=I (AV hs);exact zI
  | some ab =>
    obtain ⟨a,b⟩:=ab;have cQ:=Xz (p:=p) hk hi hs;obtain ⟨ha,hb⟩:=UD (A:=dn) (c:=bW) dM hs;have HI:=I hi;clear hi;have HU:=I (AX hs);clear hs;have hL:=NK nm x.au;generalize (F7 nm x.au).length = L at cQ HU hL;have AI:(L:Int)≤1048576:=J;clear hL;obtain ⟨bh,o,ck,Fk,rfl,o9,bc,hr,bv,hc⟩:=Sl.get (α:=aM) (A:=bG) (c:=bD) bQ hk;obtain ⟨jM,jO,sN,jE,jF,sO,aw,su,zM,qY,Gt,Gw,xg,qA⟩:=iy hr;subst aw;obtain ⟨q0,q1,q2,q3,q4,q5⟩:=nU 6 hc;clear hc;obtain ⟨S1,fg⟩:∃S,CQ (qG a p.av) x.aa[k].av = S:=⟨_,rfl⟩;obtain ⟨S2,ce⟩:∃S,CQ (qG b p.mem) x.aa[k].mem = S:=⟨_,rfl⟩;have dj:=zJ (qG a p.av) x.aa[k].av;have fR:=zJ (qG b p.mem) x.aa[k].mem;have o5:=Ru ha kQ;have nQ:=Ru hb lg;rw [fg,ce] at cQ;rw [fg] at dj;rw [ce] at fR;have HF:=I cQ;clear cQ;have mL:IntKind.i64.wrap (S1+S2) = S1+S2:=(by rw [IntKind.wrap_i64];omega);have vK:=I (show IntKind.i64.wrap ((S1+S2).tdiv 2) = (S1+S2) / 2 by rw [Int.tdiv_eq_ediv_of_nonneg J,IntKind.wrap_i64];omega);cases he1:GX a p.av with
    | none =>rw [show qG a p.av = 9223372036854775807 by unfold qG;rw [he1];rfl] at fg o5;exact Ig
    | some s1 =>rw [show qG a p.av = s1 by unfold qG;rw [he1];rfl] at fg o5;exact Ig
end Go.Proofs.YtajbbmembionpaaGreat
