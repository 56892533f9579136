/- RankingOf of the program. No condition. -/
import Derived.Test.YtjahcnjmjahbaaaGreatRankP
import Derived.Test.YtjahcnjmjahbaaaGreatSortLabelsP
import Derived.Test.YtjahcnjmjahbaaaGreatWaitC
namespace Go.Proofs.YtjahcnjmjahbaaaGreat
open Go.ChangeShapes Go.WideShapes Go.ChangeAt Go.RowKit
set_option linter.unusedVariables false
set_option linter.unusedSimpArgs false
set_option maxHeartbeats 8000000
set_option maxRecDepth 100000
theorem asf {w:World} {B c:Nat} {xs:List ByteArray} {A:Option Addr} {F:List Nat} (h:am w B xs [.slice A xs.length c] F) (cA:xs≠[]) :
 ∃b o,A = some ⟨b,o,none⟩∧B≤b∧jJ (fun s:ByteArray=>[Value.string s]) 1 w w b o xs ∧
  ∀w' ys,ys.length = xs.length→(∀y∈ys,y∈xs)→jJ (fun s:ByteArray=>[Value.string s]) 1 w w' b o ys→am w' B ys [.slice (some ⟨b,o,none⟩) ys.length c] [b]:=by
 obtain ⟨⟨A',c',G,ds,e,db,cb,hc,h0⟩,hnd,dh,hplain⟩:=h;simp only [List.cons.injEq,Value.slice.injEq,and_true,true_and] at e;obtain ⟨rfl,rfl⟩:=e;rcases h0 with h0 | ⟨b,o,rfl,rfl,hb,cq⟩
 ·exact absurd h0.1 cA
 obtain ⟨rfl,rfl,gv⟩:=ML _ _ _ hc;refine ⟨b,o,rfl,dh b (List.mem_cons_self ..),⟨fun k x hk j u hj=>?_,hplain b (List.mem_cons_self ..),.refl _ _⟩,fun w' ys hl hm hS=>?_⟩
 ·rcases j with _ | j
  ·simp at hj;subst hj;have:=cq k (.string x) (by rw [List.getElem?_map,hk];rfl);simpa using this
  ·simp at hj
 ·refine ⟨⟨_,c,[],ys.map Value.string,rfl,O,cb,VZ w' ys fun y hy=>gv y (hm y hy),.inr ⟨b,o,rfl,rfl,Nat.lt_of_lt_of_le hb hS.cN.size,fun j u hj=>?_⟩⟩,S',fun x hx=>?_,fun x hx=>?_⟩
  ·rw [List.getElem?_map] at hj;cases hk:ys[j]? with
   | none=>rw [hk] at hj;cases hj
   | some y =>
     rw [hk] at hj;cases hj
     have:=hS.bB j y hk 0 _ rfl;simpa using this
  ·rw [List.mem_singleton.1 hx];exact dh b (List.mem_cons_self ..)
  ·rw [List.mem_singleton.1 hx];exact hS.plain
theorem Xg (x:aU) (p:nI) (cs ps:List Value) (F G:List Nat) (w:World) (h:rd w x cs F) (h':rd w p ps G) (hw:(x.wt:Int)≤1048576) (eC:(p.wt:Int)≤1048576) :
 Calls Tryz.prog 105 #[.agg cs.toArray,.agg ps.toArray] w fun e w'=>∃A c G,e = .returned (.slice A (Jh x p).length c)∧am w' w.heap.size (Jh x p) [.slice A (Jh x p).length c] G∧Below w.heap.size w w':=by
 have ga:x.wt = kL ba.wt x.aa+kL ag.wt x.J:=rfl;have b5:(Ar x p x.aa).length≤1048576:=by have:=gJ ba.wt x.aa;have:=LY x p x.aa;omega
 have sY:=I b5;have gO:=I (ac6 x p);have HW:=I hw;have Uc:=I eC;clear hw eC ga b5;have hr:=h;have cj:=h';obtain ⟨bG,bD,fQ,dn,bW,jg,ax,hF,bQ,dM,hnext,aV,aP,aW⟩:=aO hr;obtain ⟨bY,bZ,iq,eU,eX,jV,bg,bn,dK,jU,hG,jW,dA,kQ,lg,lG,iO,bK⟩:=dL cj;subst ax jU;clear hF hG hr cj;go_enter Tryz.func105,Tryz.ntmps105;go_wp2_with fail
 refine (Zu x p _ _ _ _ _ (aJ h cf) (aJ h' cf) HW.out Uc.out).mono ?_;rintro e w1 ⟨A,c,G1,rfl,hO,bm⟩;obtain ⟨db,eB⟩:=ay bm;have cM:w.heap.size < w1.heap.size:=sq bm.size;have mT:w.heap.size+1 < w1.heap.size:=sq bm.size;have ox:Below w.heap.size w w1:=ah cf bm;have c0:w1.cell? ⟨w.heap.size,0,none⟩ = some (.slice bG x.aa.length bD):=by rw [db _ _ (by simp;omega),World.cell?_of_block (heap_alloc_old _ _ S'),cell_of_row _ _ _ _ _ _ (heap_alloc_new w _)];rfl
 have c1:w1.cell? ⟨w.heap.size,1,none⟩ = some (.slice dn x.J.length bW):=by rw [db _ _ (by simp;omega),World.cell?_of_block (heap_alloc_old _ _ S'),cell_of_row _ _ _ _ _ _ (heap_alloc_new w _)];rfl
 have c2:w1.cell? ⟨w.heap.size,2,none⟩ = some (.int .i64 x.next):=by rw [db _ _ (by simp;omega),World.cell?_of_block (heap_alloc_old _ _ S'),cell_of_row _ _ _ _ _ _ (heap_alloc_new w _)];rfl
 have c3:w1.cell? ⟨w.heap.size,3,none⟩ = some (.int .i64 x.weights.pack):=by rw [db _ _ (by simp;omega),World.cell?_of_block (heap_alloc_old _ _ S'),cell_of_row _ _ _ _ _ _ (heap_alloc_new w _)];rfl
 have c4:w1.cell? ⟨w.heap.size,4,none⟩ = some (.int .i64 x.weights.af):=by rw [db _ _ (by simp;omega),World.cell?_of_block (heap_alloc_old _ _ S'),cell_of_row _ _ _ _ _ _ (heap_alloc_new w _)];rfl
 have c5:w1.cell? ⟨w.heap.size,5,none⟩ = some (.int .i64 x.weights.al):=by rw [db _ _ (by simp;omega),World.cell?_of_block (heap_alloc_old _ _ S'),cell_of_row _ _ _ _ _ _ (heap_alloc_new w _)];rfl
 have d0:w1.cell? ⟨w.heap.size+1,0,none⟩ = some (.string p.name):=by rw [db _ _ S'];simp
 have d1:w1.cell? ⟨w.heap.size+1,1,none⟩ = some (.slice bY p.labels.length bZ):=by rw [db _ _ S'];simp
 have d2:w1.cell? ⟨w.heap.size+1,2,none⟩ = some (.int .i64 p.aw):=by rw [db _ _ S'];simp
 have d3:w1.cell? ⟨w.heap.size+1,3,none⟩ = some (.int .i64 p.mem):=by rw [db _ _ S'];simp
 have d4:w1.cell? ⟨w.heap.size+1,4,none⟩ = some (.int .i64 p.av):=by rw [db _ _ S'];simp
 have d5:w1.cell? ⟨w.heap.size+1,5,none⟩ = some (.slice eU p.ai.length eX):=by rw [db _ _ S'];simp
 have d6:w1.cell? ⟨w.heap.size+1,6,none⟩ = some (.slice bg p.ae.length bn):=by rw [db _ _ S'];simp
 cases hE:decide (Ar x p x.aa = []) with
 | true =>
   have hE:Ar x p x.aa = []:=(by simpa using hE);have ut:Jh x p = []:=(by unfold Jh;rw [hE];rfl);rw [hE] at hO ⊢;simp only [List.length_nil] at hO ⊢;have EB:=I ut;clear ut hE;go_wp2_with fail
   refine (aeI _ A c _).mono ?_;rintro e w2 ⟨rfl,mv⟩;subst mv;go_wp2;go_ret
   exact ⟨A,c,G1,by rw [EB.out];rfl,by rw [EB.out];exact hO.mono (by simp <;> omega),ox⟩
 | false =>
   have hE:Ar x p x.aa≠[]:=(by simpa using hE);obtain ⟨b,o,rfl,cQ,hST,hBK⟩:=asf hO hE;have Ur:=I hBK;have HO:=I hO;have fR:w.heap.size+1 < b:=(by simp at cQ;omega);have HC:CP (fun s:ByteArray=>s) (CV x p) ⟨w.heap.size,0,none⟩ ⟨w.heap.size+1,0,none⟩ w1 b:=by
    intro a a' wz hu;have ek:∀g i,g < w1.heap.size→g≠b→wz.cell? ⟨g,i,none⟩ = w1.cell? ⟨g,i,none⟩:=fun g i h1 h2=>World.cell?_of_block (hu.block g h1 Ol);have cI:=hu.size
    refine ase x p bG dn bY eU bg bD bW bZ eX bn F G _ _ wz (hu.rd (aJ h ox) (fun g hg j8=>?_)) (hu.rd (aJ h' ox) (fun g hg j8=>?_)) HW.out Uc.out
     ((ek _ _ cM O).trans c0) ((ek _ _ cM O).trans c1) ((ek _ _ cM O).trans c2) ((ek _ _ cM O).trans c3) ((ek _ _ cM O).trans c4) ((ek _ _ cM O).trans c5) ((ek _ _ mT O).trans d0) ((ek _ _ mT O).trans d1) ((ek _ _ mT O).trans d2) ((ek _ _ mT O).trans d3) ((ek _ _ mT O).trans d4) ((ek _ _ mT O).trans d5) ((ek _ _ mT O).trans d6) O O a a'
    ·have:=bk.lt h g hg;simp at j8;omega
    ·have:=bk.lt h' g hg;simp at j8;omega
   have HCC:=I HC;clear HC hO hBK cQ;go_wp2_with fail
   refine (aeJ (fun s:ByteArray=>s) w1 _ b o c _ (Ar x p x.aa) (CV x p) _ _ hST rfl sY.out (ap8 x p) HCC.out).mono ?_;rintro e w2 ⟨rfl,b4⟩
   have bC:=Ur.out w2 (Jh x p) gO.out (fun y hy=>by
    rcases Qo _ _ hy with hy | hy
    ·cases hy
    ·exact hy) b4
   have dE:Below w.heap.size w w2:=ox.trans (b4.cN.aL (fun g hg=>by rw [List.mem_singleton.1 hg];omega) O);have kX:=I gO.out.symm;go_wp2;go_ret
   refine ⟨some ⟨b,o,none⟩,c,[b],by rw [kX.out];rfl,bC.mono (by simp <;> omega),dE⟩
def gh (x:aU) (p:nI):ByteArray:=(Jh x p).headD ⟨#[]⟩
def kj (x:aU) (p:nI):Bool:=!(Jh x p).isEmpty
theorem ahW (x:aU) (p:nI) (cs ps:List Value) (F G:List Nat) (w:World) (h:rd w x cs F) (h':rd w p ps G) (hw:(x.wt:Int)≤1048576) (eC:(p.wt:Int)≤1048576) :
 Calls Tryz.prog 63 #[.agg cs.toArray,.agg ps.toArray] w fun e w'=>e = .returned (.tuple #[.string (gh x p),.bool (kj x p)])∧Below w.heap.size w w':=by
 have HW:=I hw;have Uc:=I eC;clear hw eC;have hr:=h;have cj:=h';obtain ⟨bG,bD,fQ,dn,bW,jg,ax,hF,bQ,dM,hnext,aV,aP,aW⟩:=aO hr;obtain ⟨bY,bZ,iq,eU,eX,jV,bg,bn,dK,jU,hG,jW,dA,kQ,lg,lG,iO,bK⟩:=dL cj;subst ax jU;clear hF hG hr cj;have HB:=I (show ∀l,Jh x p = l→gh x p = l.headD ⟨#[]⟩∧kj x p = !l.isEmpty from fun l hl=>by unfold gh kj;rw [hl];exact ⟨rfl,rfl⟩);go_enter Tryz.func63,Tryz.ntmps63;go_wp2_with fail
 refine (Xg x p _ _ _ _ _ (aJ h cf) (aJ h' cf) HW.out Uc.out).mono ?_;rintro e w1 ⟨A,c,G1,rfl,hO,bm⟩;have ox:Below w.heap.size w w1:=ah cf bm;obtain ⟨l,hl⟩:∃l,Jh x p = l:=⟨_,rfl⟩;rw [hl] at hO ⊢;have HL:=I (HB.out l hl);clear hl;cases l with
 | nil =>exact K'
 | cons y ys =>exact Iv
theorem Uu (x:aU) (p:nI) (cs ps:List Value) (F G:List Nat) (w:World) (h:rd w x cs F) (h':rd w p ps G) (hw:(x.wt:Int)≤1048576) (eC:(p.wt:Int)≤1048576) :
 Calls Tryz.prog 24 #[.agg cs.toArray,.agg ps.toArray] w fun e w'=>e = .returned (.tuple #[.string (gh x p),.bool (kj x p)])∧Below w.heap.size w w':=by
 have HW:=I hw;have Uc:=I eC;clear hw eC;have hr:=h;have cj:=h';obtain ⟨bG,bD,fQ,dn,bW,jg,ax,hF,bQ,dM,hnext,aV,aP,aW⟩:=aO hr;obtain ⟨bY,bZ,iq,eU,eX,jV,bg,bn,dK,jU,hG,jW,dA,kQ,lg,lG,iO,bK⟩:=dL cj;subst ax jU;clear hF hG hr cj;have HB:=I (show ∀l,Jh x p = l→gh x p = l.headD ⟨#[]⟩∧kj x p = !l.isEmpty from fun l hl=>by unfold gh kj;rw [hl];exact ⟨rfl,rfl⟩);go_enter Tryz.func24,Tryz.ntmps24;go_wp2_with fail
 refine (Xh x p _ _ _ _ _ (aJ h cf) (aJ h' cf) HW.out Uc.out).mono ?_;rintro e w1 ⟨A,c,G1,rfl,hO,bm⟩;have ox:Below w.heap.size w w1:=ah cf bm;obtain ⟨l,hl⟩:∃l,Jh x p = l:=⟨_,rfl⟩;rw [hl] at hO ⊢;have HL:=I (HB.out l hl);clear hl;cases l with
 | nil =>exact K'
 | cons y ys =>exact Iv
theorem aDt:(Tryz.prog.info? 57).map (fun i=>(i.zero,i.size,i.bytes)) = some (some (.agg #[.string ⟨#[]⟩,.string ⟨#[]⟩]),2,32):=by kernel_rfl
theorem r7:DL Tryz.prog 35 57 (.agg #[.string ⟨#[]⟩,.string ⟨#[]⟩]) 2 32:=⟨Tryz.underlying35,aDt,rfl,O⟩
theorem aBD {w:World} {xs:List aD} (h:∀x∈xs,rd w x (ib x) []) {x:aD} (hx:x∈xs) (w':World):rd w' x (ib x) []:=by
 obtain ⟨h0,h1,h2,h3⟩:=vO (h x hx);exact XU w' x h2 h3
theorem Cn {y z:aD} (h:kS fw y z = false):(Op.bytesLess z.key.toList y.key.toList || z.key.toList == y.key.toList) = true∧(Op.bytesLess y.key.toList z.key.toList) = false:=by
 have h1:¬fw y z < 0:=by simpa [kS] using h
 have h2:fw z y = - fw y z:=R8.gS _ _;have hh:Op.bytesLess y.key.toList z.key.toList = false:=by
  cases hb:Op.bytesLess y.key.toList z.key.toList with
  | false=>rfl
  | true =>rw [← Wx,ByteArray.toList_eq,ByteArray.toList_eq] at hb;exact absurd hb h1
 refine ⟨?_,hh⟩;by_cases h3:fw y z = 0
 ·have:=(J5 _ _).1 h3;rw [ByteArray.toList_eq,ByteArray.toList_eq,this];simp
 ·have h4:fw z y < 0:=by omega
  have:=(Wx _ _).1 h4;rw [ByteArray.toList_eq,ByteArray.toList_eq,this];rfl
theorem Co {y z:aD} (h:kS fw y z = true):(Op.bytesLess z.key.toList y.key.toList || z.key.toList == y.key.toList) = false:=by
 have h1:fw y z < 0:=by simpa [kS] using h
 have h2:fw z y = - fw y z:=R8.gS _ _;rw [Bool.or_eq_false_iff];constructor
 ·cases hb:Op.bytesLess z.key.toList y.key.toList with
  | false=>rfl
  | true =>rw [← Wx,ByteArray.toList_eq,ByteArray.toList_eq] at hb;have:fw z y < 0:=hb;omega
 ·cases hb:(z.key.toList == y.key.toList) with
  | false=>rfl
  | true =>rw [beq_iff_eq,ByteArray.toList_eq,ByteArray.toList_eq] at hb;have:fw z y = 0:=(J5 _ _).2 hb;omega
theorem aBE {xs:List aD} (h:sD xs = true):xs.length≤6:=by
 unfold sD nF at h;exact vt
theorem Z5 (xs:List aD) (A:Option Addr) (c:Nat) (F:List Nat) (w:World) (h:Sl w xs A c F) (hl:(xs.length:Int)≤1048576) (cS:∀l∈xs,(l.key.size:Int)≤1048576∧(l.value.size:Int)≤1048576) :
 Calls Tryz.prog 210 #[.slice A xs.length c] w fun e w'=>∃A' c' G,e = .returned (.tuple #[.slice A' (BG xs).1.length c',.bool (BG xs).2])∧am w' w.heap.size (BG xs).1 [.slice A' (BG xs).1.length c'] G∧Below w.heap.size w w'∧((BG xs).2 = true→eV w' w.heap.size 57 2 A' c'):=by
 have Eo:=I cS;clear cS
 have rE:=I (show ∀x∈xs,rd w x (ib x) [] from fun x hx=>by
  obtain ⟨k,hk,rfl⟩:=List.getElem_of_mem hx;obtain ⟨b,o,ck,Fk,_,_,_,hr,_,_⟩:=h.get hk;have h2:=vO hr;rw [h2.1,h2.2.1] at hr
  exact hr)
 go_enter Tryz.func210,Tryz.ntmps210
 go_wp2_with (
  at_builtin
  go_must (refine rW r7 Z Z _ _ Z (w.alloc (.cells #[] 57)) w.heap.size _ 0 [] (D9 w 57 2 w.heap.size rfl) Z xs A c F (h.ext (ak (aj _) _)) Z O O S' ?_)
  intro v2 w2 ds G cJ br aR hg cL;go_must (obtain ⟨A2,c2,eN⟩:=mY aR)
  go_must (subst eN)
  go_must (have ao:Below w.heap.size w w2:=lS (World.ownsRow_made (e:=57) (size:=2) w #[] 0 (Nat.le_refl _) (Nat.zero_le _) S') hg (ak (aj _) _) S'))
 all_goals
  simp only [Nat.zero_add,List.nil_append] at aR;try simp only [Nat.zero_add]
 ·have qB:¬xs.length≤6:=by omega
  have HR:=I (YO (by cases hh:sD (aE (kS fw) [] xs) with
  | false=>rfl
  | true=>have:=aBE hh;rw [YS] at this;omega))
  have qh:jo w2 xs ds G:=cJ.frame (fun b hb=>hg.block b (cJ.lt b hb) (fun e=>by have h1:=h.lt b (br b hb);simp [Value.ownBlock] at e;omega)) hg.size;obtain ⟨A3,c3,G3,iA,hO3⟩:=am.cO (fun {w x cs F} hh=>(vO hh).2.1) aR qh;exact Bb
 ·have qB:xs.length≤6:=by omega
  have mA:=I (show jo w2 xs ds G from cJ.frame (fun b hb=>hg.block b (cJ.lt b hb) (fun e=>by have h1:=h.lt b (br b hb);simp [Value.ownBlock] at e;omega)) hg.size);have gz:=I aR;have lh:=I ao;have cK:Sl w2 xs A c F:=h.ext ao;clear aR cJ hg cL br ao;go_wp2_with fail
  go_loopw [5,6] (fun v i wr=>∃k N g aM:Nat,k≤xs.length∧N≤k∧i = .int .i64 (k:Int)∧v = .slice (some ⟨g,0,none⟩) N aM∧Hid ((aE (kS fw) [] (xs.take k)).length = N)∧wr.ownsRow w2.heap.size 57 2 (.slice (some ⟨g,0,none⟩) N aM) N ((aE (kS fw) [] (xs.take k)).flatMap ib)∧Below w2.heap.size w2 wr) (fun _ i _=>xs.length - (intOf i).toNat)
  case atStart=>exact ⟨0,0,w2.heap.size,0,O,Nat.le_refl _,rfl,rfl,I rfl,D9 w2 57 2 w2.heap.size rfl,ak (aj _) _⟩
  case round =>
   obtain ⟨k,N,g,aM,hk,hNk,rfl,rfl,cU,bA,az⟩:=hrel;by_cases ap:k < xs.length
   ·obtain ⟨wo,hwo⟩:∃wo,wo = wr:=⟨_,rfl⟩;subst hwo;obtain ⟨b,o,ck,Fk,hA,hbG,hbs,aJe,_,hcells⟩:=Sl.get cK ap;subst hA;have so:xs[k]∈xs:=List.getElem_mem ..;have ee:aE (kS fw) [] (xs.take (k+1)) = OM (kS fw) xs[k] (aE (kS fw) [] (xs.take k)):=(by rw [List.take_succ_eq_append_getElem ap,V3]);obtain ⟨y,hy⟩:∃y,xs[k] = y:=⟨_,rfl⟩;rw [hy] at aJe so ee;obtain ⟨ax,_⟩:=vO aJe;subst ax;have k0:wo.cell? ⟨b,o+k * 2,none⟩ = some (.string y.key):=r' az (by have:=hcells 0 _ rfl;rwa [show o+(k * bk.size aD+0) = o+k * 2 by show o+(k * 2+0) = _;omega] at this) hbs;have k1:wo.cell? ⟨b,o+k * 2+1,none⟩ = some (.string y.value):=r' az (by have:=hcells 1 _ rfl;rwa [show o+(k * bk.size aD+1) = o+k * 2+1 by show o+(k * 2+1) = _;omega] at this) hbs;have Jf:=I ee;have O8:=I so;clear hcells hy ee so;have sr:=I (show ∀z∈aE (kS fw) [] (xs.take k),z∈xs from fun z hz=>List.mem_of_mem_take (YR hz));generalize aE (kS fw) [] (xs.take k) = SS at *;obtain ⟨kv,et,mU,hgc⟩:=IE bA;have PV:w2.heap.size≤wo.heap.size:=az.size;have ff:b < wo.heap.size:=O;have lM:=I hgc;have im:=I bA;have fi:=I az;clear hgc bA az;go_wp2_with fail
    go_loopw [7] (fun j wr=>∃(s1 s2:List aD) (jj:Nat),Hid (SS = s1++s2)∧j = .int .i64 (jj:Int)∧Hid (s1.length = jj)∧Hid (∀z∈s1,kS fw y z = false)∧Below wo.heap.size wo wr) (fun j _=>N - (intOf j).toNat)
    case atStart=>exact ⟨[],SS,0,I rfl,rfl,I rfl,I (fun z hz=>by cases hz),aj _⟩
    case round =>
     obtain ⟨s1,s2,jj,HE,rfl,HJ,HN,bS⟩:=hrel;have mc:∀bq oq u,wo.cell? ⟨bq,oq,none⟩ = some u→bq < wo.heap.size→wr.cell? ⟨bq,oq,none⟩ = some u:=fun bq oq u h1 h2=>(bS.cell (p:=⟨bq,oq,none⟩) h2).trans h1;replace k0:=mc _ _ _ k0 ff;replace k1:=mc _ _ _ k1 ff;have MC:=I mc;have px:wo.heap.size≤wr.heap.size:=bS.size;have nx:b < wr.heap.size:=O;have l4:g < wr.heap.size:=O;clear mc;cases s2 with
     | nil =>
       have fX:jj = N:=(by have e1:=HE.out;have e2:=cU.out;have e3:=HJ.out;rw [e1,List.append_nil] at e2;omega);have py:N≤jj:=O;have pA:decide ((jj:Int) < (N:Int)) = false:=(by simp;omega);have pB:decide (jj < N) = false:=(by simp;omega);clear fX;have HI:=I (show OM (kS fw) y (SS) = s1++y :: [] by rw [HE.out];exact PY s1 [] HN.out (.inl rfl));go_wp2_with fail
       refine aF wr U' U' (aj _) ?_
       repeat ((first | refine aG Z ?_ | refine aH _ Z d' ?_);simp only [Act.put,pz])
       refine aN ?_;intro wn hn;replace hn:=hn.out;have bE:Below wo.heap.size wo wn:=ah bS hn;have lV:=I (show Below w2.heap.size w2 wn from ah fi.out bE);have RJ:=mG im.out bE;obtain ⟨_,eT,apy,V4⟩:=IE RJ
       have eJ:=I (show ∀q u,(s1.flatMap ib)[q]? = some u→wn.cell? ((⟨g,0,none⟩:Addr).add q) = some u from fun q u hu=>by
        rw [Addr.add_lit,Nat.zero_add];refine V4 q u ?_
        rw [HE.out,List.flatMap_append,List.getElem?_append_left (List.getElem?_eq_some_iff.1 hu).1];exact hu)
       have Gn:=I (show ∀q u,((([]:List aD)).flatMap ib)[q]? = some u→wn.cell? ⟨g,jj * 2+q,none⟩ = some u from fun q u hu=>by
        refine V4 (jj * 2+q) u ?_
        rw [HE.out,List.flatMap_append,List.getElem?_append_right (by rw [lA (row:=ib) (S:=2) (fun _=>rfl),HJ.out];omega),lA (row:=ib) (S:=2) (fun _=>rfl),HJ.out,Nat.add_sub_cancel_left];exact hu)
       have cC:jj+(([]:List aD)).length = N:=(by have e1:=congrArg List.length HE.out;have e2:=cU.out;have e3:=HJ.out;rw [List.length_append] at e1;omega);have ov:jj≤N:=O;have oM:jj≤aM:=O;replace k0:=r' hn k0 eE;replace k1:=r' hn k1 eE;have mZ:b < wn.heap.size:=(by have:=hn.size;omega);have jK:=I cC;have kb:=I bE;clear RJ V4 cC bE;go_wp2_with fail
       refine zU wn 12 U' U' (aj _) ?_;refine YU (fun a0 a' w'=>∃(g9 p9:Nat) (dk dl dm dp dq dr dt d9 eO eR:Value),a' = (Act.put (Act.put (Act.put (Act.put (Act.put (Act.put (Act.put (Act.put (Act.put (Act.put (Act.put (Act.put a0 (some 42) (dk)) (some 43) (dl)) (some 44) (dm)) (some 45) (dp)) (some 46) (dq)) (some 47) (dr)) (some 48) (dt)) (some 49) (d9)) (some 50) (eO)) (some 51) (eR)) (some 52) (.slice (some ⟨g9,0,none⟩) (jj+1) p9)) (some 8) (.slice (some ⟨g9,0,none⟩) (jj+1) p9))∧Below wn.heap.size wn w'∧World.ownsRow w' wn.heap.size 57 2 (.slice (some ⟨g9,0,none⟩) (jj+1) p9) (jj+1) ((s1.flatMap ib)++[.string y.key,.string y.value])) ?_ ?_;rotate_left
       ·exact Lg
       intro a' w7 fq;obtain ⟨g9,p9,dk,dl,dm,dp,dq,dr,dt,d9,eO,eR,rfl,bN,nK⟩:=fq;try simp only [Act.put,pz]
       have de:∃A0:Addr,(if aM = jj then some (⟨g,0,none⟩:Addr) else some ⟨g,jj * 2,none⟩) = some A0∧Hid (A0.block = g∧∀q u,((([]:List aD)).flatMap ib)[q]? = some u→w7.cell? (A0.add q) = some u):=by
        by_cases hc:aM = jj
        ·exact vo
        ·exact ⟨⟨g,jj * 2,none⟩,by simp [hc],rfl,fun q u hu=>by simp at hu⟩
       obtain ⟨A0,hA0,asg⟩:=de;have bz:N - jj = (([]:List aD)).length:=(by have:=jK.out;omega);have mR:=I bz;clear bz
       go_wp2_with (
        at_builtin
        go_must (refine xW r7 Z _ _ Z w7 wn.heap.size _ _ _ nK Z A0 0 (aM - jj) ((([]:List aD)).flatMap ib) Z Z asg.out.2 (nw xF _) O O lz ?_)
        intro v8 w8 Le dg li;rw [show jj+1+0 = N+1 by omega] at Le;obtain ⟨g8,p8,hv8,aJs,aJt,aJu⟩:=wW Le O
        subst hv8)
       exact LL
     | cons z s2 =>
       have fX:jj < N:=(by have e1:=congrArg List.length HE.out;have e2:=cU.out;have e3:=HJ.out;rw [List.length_append,List.length_cons] at e1;omega);have z0:wr.cell? ⟨g,jj * 2,none⟩ = some (.string z.key):=MC.out _ _ _ (lM.out (jj * 2+0) _ (by rw [HE.out];exact ud (row:=ib) (S:=2) (fun _=>rfl) _ jj z vA 0 _ rfl)) et;have z1:wr.cell? ⟨g,jj * 2+1,none⟩ = some (.string z.value):=MC.out _ _ _ (lM.out (jj * 2+1) _ (by rw [HE.out];exact ud (row:=ib) (S:=2) (fun _=>rfl) _ jj z vA 1 _ rfl)) et;have pA:decide ((jj:Int) < (N:Int)) = true:=(by simp;omega);have O4:=I (show z∈xs from sr.out z AD);cases hL:kS fw y z with
       | false =>have HL:=I hL;have er:=Cn hL;obtain ⟨Cr,hle2⟩:=er;clear hL;exact Lw
       | true =>
         have HL:=I hL;have er:=Co hL;have HI:=I (show OM (kS fw) y (SS) = s1++y :: (z :: s2) by rw [HE.out];exact PY s1 (z :: s2) HN.out (.inr ⟨_,_,rfl,HL.out⟩));clear hL;go_wp2_with fail
         refine aF wr U' U' (aj _) ?_
         repeat ((first | refine aG Z ?_ | refine aH _ Z d' ?_);simp only [Act.put,pz])
         refine aN ?_;intro wn hn;replace hn:=hn.out;have bE:Below wo.heap.size wo wn:=ah bS hn;have lV:=I (show Below w2.heap.size w2 wn from ah fi.out bE);have RJ:=mG im.out bE;obtain ⟨_,eT,apy,V4⟩:=IE RJ
         have eJ:=I (show ∀q u,(s1.flatMap ib)[q]? = some u→wn.cell? ((⟨g,0,none⟩:Addr).add q) = some u from fun q u hu=>by
          rw [Addr.add_lit,Nat.zero_add];refine V4 q u ?_
          rw [HE.out,List.flatMap_append,List.getElem?_append_left (List.getElem?_eq_some_iff.1 hu).1];exact hu)
         have Gn:=I (show ∀q u,((z :: s2).flatMap ib)[q]? = some u→wn.cell? ⟨g,jj * 2+q,none⟩ = some u from fun q u hu=>by
          refine V4 (jj * 2+q) u ?_
          rw [HE.out,List.flatMap_append,List.getElem?_append_right (by rw [lA (row:=ib) (S:=2) (fun _=>rfl),HJ.out];omega),lA (row:=ib) (S:=2) (fun _=>rfl),HJ.out,Nat.add_sub_cancel_left];exact hu)
         have cC:jj+(z :: s2).length = N:=(by have e1:=congrArg List.length HE.out;have e2:=cU.out;have e3:=HJ.out;rw [List.length_append] at e1;omega);have ov:jj≤N:=O;have oM:jj≤aM:=O;have PZ:¬aM = jj:=O;replace k0:=r' hn k0 eE;replace k1:=r' hn k1 eE;have mZ:b < wn.heap.size:=(by have:=hn.size;omega);have jK:=I cC;have kb:=I bE;clear RJ V4 cC bE;go_wp2_with fail
         refine zU wn 12 U' U' (aj _) ?_;refine YU (fun a0 a' w'=>∃(g9 p9:Nat) (dk dl dm dp dq dr dt d9 eO eR:Value),a' = (Act.put (Act.put (Act.put (Act.put (Act.put (Act.put (Act.put (Act.put (Act.put (Act.put (Act.put (Act.put a0 (some 42) (dk)) (some 43) (dl)) (some 44) (dm)) (some 45) (dp)) (some 46) (dq)) (some 47) (dr)) (some 48) (dt)) (some 49) (d9)) (some 50) (eO)) (some 51) (eR)) (some 52) (.slice (some ⟨g9,0,none⟩) (jj+1) p9)) (some 8) (.slice (some ⟨g9,0,none⟩) (jj+1) p9))∧Below wn.heap.size wn w'∧World.ownsRow w' wn.heap.size 57 2 (.slice (some ⟨g9,0,none⟩) (jj+1) p9) (jj+1) ((s1.flatMap ib)++[.string y.key,.string y.value])) ?_ ?_;rotate_left
         ·exact Lg
         intro a' w7 fq;obtain ⟨g9,p9,dk,dl,dm,dp,dq,dr,dt,d9,eO,eR,rfl,bN,nK⟩:=fq;try simp only [Act.put,pz]
         have bz:N - jj = (z :: s2).length:=(by have:=jK.out;omega);have mR:=I bz;clear bz
         go_wp2_with (
          at_builtin
          go_must (refine xW r7 Z _ _ Z w7 wn.heap.size _ _ _ nK Z ⟨g,jj * 2,none⟩ (N - jj) (aM - jj) ((z :: s2).flatMap ib) Z (by rw [lA (row:=ib) (S:=2) (fun _=>rfl),mR.out]) (fun q u hu=>by rw [Addr.add_lit];exact (bN.cell (p:=⟨g,jj * 2+q,none⟩) eT).trans (Gn.out q u hu)) (nw xF _) O O lz ?_)
          intro v8 w8 Le dg li;rw [show jj+1+(N - jj) = N+1 by omega] at Le;obtain ⟨g8,p8,hv8,aJs,aJt,aJu⟩:=wW Le O
          subst hv8)
         exact LL
   ·have bz:k = xs.length:=O;subst bz;rw [List.take_length] at bA cU;have nr:=I (show Below w.heap.size w wr from lh.out.trans (az.mono lh.out.size));have DX:=I az;have cE:∀z∈aE (kS fw) [] (xs),z∈xs:=fun z hz=>YR hz;rw [← cU.out] at bA;obtain ⟨A4,c4,G4,hv4,hO4⟩:=SZ (β:=aD) (row:=ib) rfl (aE (kS fw) [] (xs)) bA (fun x hx=>aBD rE.out (cE x hx) wr);rw [cU.out] at hv4;simp only [Value.slice.injEq,true_and] at hv4;obtain ⟨vM,eA⟩:=hv4;subst vM eA;have kR:=I (hO4.mono lh.out.size);have lW:=I (eV.oJ bA lh.out.size);have kq:=I (Jw (aE (kS fw) [] (xs)) _ N aM G4 wr hO4.rd cU.out.symm (by rw [cU.out];omega) (fun l hl=>Eo.out l (cE l hl)));clear az bA hO4 cE;cases hr:sD (aE (kS fw) [] (xs)) with
    | true =>have HR:=I (ayQ hr);exact BQ
    | false =>have HR:=I (YO hr);have kX:=I hr;clear hr;obtain ⟨A3,c3,G3,iA,hO3⟩:=am.cO (fun {w x cs F} hh=>(vO hh).2.1) gz.out mA.out;exact AP
theorem Z6 (xs:List aD) (A:Option Addr) (c:Nat) (F:List Nat) (w:World) (h:Sl w xs A c F) (hl:(xs.length:Int)≤1048576) (cS:∀l∈xs,(l.key.size:Int)≤1048576∧(l.value.size:Int)≤1048576) :
 Calls Tryz.prog 210 #[.slice A xs.length c] w fun e w'=>∃A' c' G,e = .returned (.tuple #[.slice A' (BG xs).1.length c',.bool (BG xs).2])∧am w' w.heap.size (BG xs).1 [.slice A' (BG xs).1.length c'] G∧Below w.heap.size w w' :=
 (Z5 xs A c F w h hl cS).mono fun _ _ ⟨A',c',G,a,b,d,_⟩=>⟨A',c',G,a,b,d⟩
end Go.Proofs.YtjahcnjmjahbaaaGreat
