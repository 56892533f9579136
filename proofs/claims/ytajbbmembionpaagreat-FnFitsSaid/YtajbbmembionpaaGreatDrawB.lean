/- The cursor of a draw: one byte, a number below a bound, one of some. No condition. -/
import Derived.Test.YtajbbmembionpaaGreatBlk
namespace Go.Proofs.YtajbbmembionpaaGreat
open Go.ChangeShapes Go.WideShapes Go.ChangeAt Go.RowKit
set_option linter.unusedVariables false
set_option linter.unusedSimpArgs false
set_option maxHeartbeats 2000000
set_option maxRecDepth 100000
theorem Ln (a:Int) (m:Nat) (hm:m < 9223372036854775808):0≤bits .and .i64 a (m:Int)∧bits .and .i64 a (m:Int)≤m:=by
 have h2:(BitVec.ofInt 64 (m:Int)).toNat = m:=by rw [BitVec.ofInt_natCast,BitVec.toNat_ofNat];exact Nat.mod_eq_of_lt J
 have h3:(BitVec.ofInt 64 a &&& BitVec.ofInt 64 (m:Int)).toNat≤m:=by rw [BitVec.toNat_and,h2];exact Nat.and_le_right
 have e:bits .and .i64 a (m:Int) = IntKind.i64.wrap ((BitVec.ofInt 64 a &&& BitVec.ofInt 64 (m:Int)).toNat:Int):=rfl;rw [e,IntKind.wrap_i64];omega
theorem aC6 (a:Int):bt (wrap64 a):=by unfold wrap64 bt;omega
theorem GW (w:World) (c:Nat) (A:Option Addr) (n ar:Nat) (h:bR w c A n ar) :
 Calls Tryz.prog 94 #[.pointer (some ⟨c,0,none⟩)] w fun e w'=>∃r:Int,e = .returned (.int .i64 r)∧(0≤r∧r≤255)∧bR w' c A n ar∧nN [c] w w':=by
 obtain ⟨i0,x0,hi,hx,c0,c1,c2,hfz⟩:=h.cells;have av:=h.lt;have cN:=hfz 2;have H:=I h;clear h hfz hi hx;go_enter Tryz.func94,Tryz.ntmps94;go_wp2;have hu:nN [c] w (w.setCell ⟨c,2,none⟩ (.int .i64 (wrap64 (wrap64 (x0 * 6364136223846793005)+1442695040888963407)))):=(nN.refl _ _).setCell S' _;have H1:=H.out.number (x:=wrap64 (wrap64 (x0 * 6364136223846793005)+1442695040888963407)) (aC6 _);generalize w.setCell ⟨c,2,none⟩ (.int .i64 (wrap64 (wrap64 (x0 * 6364136223846793005)+1442695040888963407))) = w1 at *;clear c0 c1 c2 cN;obtain ⟨i,x,hi,hx,c0,c1,c2,hfz⟩:=H1.cells;have hs:=H1.small;have eT:=hfz 1;have fs:=H1.lt;by_cases hk:i < n
 ·obtain ⟨k,rfl⟩:∃k:Nat,i = k:=⟨i.toNat,J⟩;obtain ⟨g,o,v,rfl,hg,hv,gm,r8⟩:=H1.byte (k:=k) J;replace H1:=I H1;go_region
  obtain ⟨y,hy,hy0,Lo⟩:∃y,bits BinOp.and IntKind.i64 (bits BinOp.xor IntKind.i64 (x / 8589934592) (x / 35184372088832)) 255 = y∧0≤y∧y≤255:=⟨_,rfl,Ln _ 255 (by decide)⟩;simp only [hy];clear hy;go_wp2;go_region
  go_wp2;go_region
  go_wp2;go_ret
  exact ⟨_,rfl,Ln _ 255 (by decide),(H1.out.GV J).drew.drew.drew,((hu.setCell S' _).drew.drew.drew)⟩
 ·replace H1:=I H1;go_region
  obtain ⟨y,hy,hy0,Lo⟩:∃y,bits BinOp.and IntKind.i64 (bits BinOp.xor IntKind.i64 (x / 8589934592) (x / 35184372088832)) 255 = y∧0≤y∧y≤255:=⟨_,rfl,Ln _ 255 (by decide)⟩;simp only [hy];clear hy;go_wp2;go_region
  go_wp2;go_ret
  exact ⟨_,rfl,⟨hy0,Lo⟩,H1.out.drew.drew,hu.drew.drew⟩
theorem gS (m:Nat) (hm:0 < m∧(m:Int)≤1000000000) (w:World) (c:Nat) (A:Option Addr) (n ar:Nat) (h:bR w c A n ar) :
 Calls Tryz.prog 53 #[.pointer (some ⟨c,0,none⟩),.int .i64 m] w fun e w'=>∃r:Nat,e = .returned (.int .i64 r)∧r < m∧bR w' c A n ar∧nN [c] w w':=by
 obtain ⟨TL,oT⟩:=hm;have av:=h.lt;have HC:=I h;clear h;by_cases hs:(m:Int)≤256
 ·go_enter Tryz.func53,Tryz.ntmps53;go_wp2_with fail
  refine (GW _ c A n ar HC.out).mono ?_;rintro e w1 ⟨r,rfl,⟨d',gN⟩,H1,hu⟩;obtain ⟨k,rfl⟩:∃k:Nat,r = k:=⟨r.toNat,J⟩;replace H1:=I H1;go_wp2;go_ret
  exact ⟨k % m,S',Nat.mod_lt _ TL,H1.out,hu⟩
 ·go_enter Tryz.func53,Tryz.ntmps53;go_wp2_with fail
  refine (GW _ c A n ar HC.out).mono ?_;rintro e w1 ⟨r1,rfl,⟨d',gN⟩,H1,hu1⟩;replace H1:=I H1;go_wp2_with fail
  refine (GW _ c A n ar H1.out).mono ?_;rintro e w2 ⟨r2,rfl,⟨sc,jK⟩,H2,b8⟩;replace H2:=I H2;go_wp2_with fail
  refine (GW _ c A n ar H2.out).mono ?_;rintro e w3 ⟨r3,rfl,⟨fZ,dq⟩,H3,bv⟩;replace H3:=I H3;go_wp2_with fail
  refine (GW _ c A n ar H3.out).mono ?_;rintro e w4 ⟨r4,rfl,⟨ht0,TO⟩,H4,Td⟩;replace H4:=I H4;go_wp2;go_ret
  obtain ⟨q,hq⟩:∃q:Nat,r1 * 16777216+r2 * 65536+r3 * 256+r4 = q:=⟨(r1 * 16777216+r2 * 65536+r3 * 256+r4).toNat,J⟩;exact ⟨q % m,(by simp [hq]),Nat.mod_lt _ TL,H4.out,(hu1.trans b8).trans (bv.trans Td)⟩
theorem sd (m:Nat) (hm:0 < m∧(m:Int)≤1000000000) (w:World) (c:Nat) (A:Option Addr) (n ar:Nat) (h:bR w c A n ar) :
 Calls Tryz.prog 113 #[.pointer (some ⟨c,0,none⟩),.int .i64 m] w fun e w'=>∃r:Bool,e = .returned (.bool r)∧bR w' c A n ar∧nN [c] w w':=by
 have HC:=I h;clear h;have HM:=I hm;clear hm;go_enter Tryz.func113,Tryz.ntmps113;go_wp2_with fail
 refine (gS m HM.out _ c A n ar HC.out).mono ?_;rintro e w1 ⟨k,rfl,hk,H1,hu⟩;replace H1:=I H1;go_wp2;go_ret
 exact ⟨_,rfl,H1.out,hu⟩
theorem vb (S:ByteArray→Prop) (g m mc:Nat) (hm:0 < m∧(m:Int)≤1000000000) (w:World) (c:Nat) (A:Option Addr) (n ar:Nat) (h:bR w c A n ar) (hg:g≠c) (jG:g < w.heap.size) (hS:∀k,k < m→∃s,w.cell? ⟨g,k,none⟩ = some (.string s)∧S s) :
 Calls Tryz.prog 116 #[.pointer (some ⟨c,0,none⟩),.slice (some ⟨g,0,none⟩) m mc] w fun e w'=>∃s,e = .returned (.string s)∧S s∧bR w' c A n ar∧nN [c] w w':=by
 have HC:=I h;clear h;have HM:=I hm;clear hm;go_enter Tryz.func116,Tryz.ntmps116;go_wp2_with fail
 refine (gS m HM.out _ c A n ar HC.out).mono ?_;rintro e w1 ⟨k,rfl,hk,H1,hu⟩;replace H1:=I H1;obtain ⟨s,hs,cR⟩:=hS k hk;have nH:(k:Int) < m:=by omega
 have dq:w1.cell? ⟨g,k,none⟩ = some (.string s):=by rw [← hs];exact World.cell?_of_block (hu.block g jG (by simpa using hg))
 go_wp2;go_ret
 exact ⟨_,rfl,cR,H1.out,hu⟩
theorem Bs (S:Int→Prop) (g m mc:Nat) (hm:0 < m∧(m:Int)≤1000000000) (w:World) (c:Nat) (A:Option Addr) (n ar:Nat) (h:bR w c A n ar) (hg:g≠c) (jG:g < w.heap.size) (hS:∀k,k < m→∃s,w.cell? ⟨g,k,none⟩ = some (.int .i64 s)∧S s) :
 Calls Tryz.prog 72 #[.pointer (some ⟨c,0,none⟩),.slice (some ⟨g,0,none⟩) m mc] w fun e w'=>∃s,e = .returned (.int .i64 s)∧S s∧bR w' c A n ar∧nN [c] w w':=by
 have HC:=I h;clear h;have HM:=I hm;clear hm;go_enter Tryz.func72,Tryz.ntmps72;go_wp2_with fail
 refine (gS m HM.out _ c A n ar HC.out).mono ?_;rintro e w1 ⟨k,rfl,hk,H1,hu⟩;replace H1:=I H1;obtain ⟨s,hs,cR⟩:=hS k hk;have nH:(k:Int) < m:=by omega
 have dq:w1.cell? ⟨g,k,none⟩ = some (.int .i64 s):=by rw [← hs];exact World.cell?_of_block (hu.block g jG (by simpa using hg))
 go_wp2;go_ret
 exact ⟨_,rfl,cR,H1.out,hu⟩
theorem TP (w:World) (A:Option Addr) (n ar:Nat) (X:(n:Int)≤1048576) (cL:∀k,k < n→∃(g o:Nat) (v:Int),A = some ⟨g,o,none⟩∧g < w.heap.size∧w.cell? ⟨g,o+k,none⟩ = some (.int .u8 v)∧0≤v∧v≤255) :
 Calls Tryz.prog 33 #[.slice A n ar] w fun e w'=>∃c,e = .returned (.pointer (some ⟨c,0,none⟩))∧w.heap.size≤c∧bR w' c A n ar∧Below w.heap.size w w':=by
 go_enter Tryz.func33,Tryz.ntmps33;go_wp2_with fail
 go_loopw [3,4] (fun x i wr=>∃(q:Int) (k:Nat),x = .int .i64 q∧i = .int .i64 k∧(0≤q∧q≤1073741823)∧k≤n∧(k:Int)≤4000∧Below w.heap.size w wr) (fun _ i _=>n - (intOf i).toNat)
 case atStart=>exact ⟨94701+n,0,Yd,rfl,J,Nat.zero_le _,J,aj _⟩
 case round =>
  obtain ⟨q,k,rfl,rfl,⟨sc,jK⟩,tA,hk4,U⟩:=hrel;by_cases hk:k < n
  ·obtain ⟨g,o,v,rfl,hg,hv,gm,r8⟩:=cL k hk;have hvw:wr.cell? ⟨g,o+k,none⟩ = some (.int .u8 v):=r' U hv hg;have gh:(n:Int)≤ar∨True:=.inr trivial;by_cases hk5:(k:Int) < 4000
   ·have GY:(k:Int) < n:=J;go_wp2;exact ⟨⟨_,k+1,rfl,N',Ln _ 1073741823 (by decide),J,J,U⟩,by simp only [intOf];omega⟩
   ·have GY:(k:Int) < n:=J;exact DU
  ·have GY:¬(k:Int) < n:=J;exact DU
theorem Z6:(Tryz.prog.info? 67).map (fun i=>(i.zero,i.size,i.bytes)) = some (some ((.agg #[.string ⟨#[]⟩,.string ⟨#[]⟩])),2,32):=by kernel_rfl
theorem S5:DL Tryz.prog 31 67 ((.agg #[.string ⟨#[]⟩,.string ⟨#[]⟩])) 2 32:=⟨Tryz.underlying31,Z6,rfl,J⟩
theorem S6 {w:World} {x:ao} {cs:List Value} {F:List Nat} (h:rd w x cs F):F = []:=by obtain ⟨_,hF,_⟩:=vO h;exact hF
theorem Z7:(Tryz.prog.info? 126).map (fun i=>(i.zero,i.size,i.bytes)) = some (some ((.agg #[.string ⟨#[]⟩,.string ⟨#[]⟩,.int .i64 0])),3,40):=by kernel_rfl
theorem Z8:DL Tryz.prog 45 126 ((.agg #[.string ⟨#[]⟩,.string ⟨#[]⟩,.int .i64 0])) 3 40:=⟨Tryz.underlying45,Z7,rfl,J⟩
theorem Z9 {w:World} {x:iU} {cs:List Value} {F:List Nat} (h:rd w x cs F):F = []:=by obtain ⟨_,hF,_⟩:=oK h;exact hF
theorem Z':(Tryz.prog.info? 117).map (fun i=>(i.zero,i.size,i.bytes)) = some (some ((.agg #[.string ⟨#[]⟩,.bool false,.string ⟨#[]⟩,.int .i64 0])),4,48):=by kernel_rfl
theorem abo:DL Tryz.prog 33 117 ((.agg #[.string ⟨#[]⟩,.bool false,.string ⟨#[]⟩,.int .i64 0])) 4 48:=⟨Tryz.underlying33,Z',rfl,J⟩
theorem Zk {w:World} {x:bH} {cs:List Value} {F:List Nat} (h:rd w x cs F):F = []:=by obtain ⟨_,hF,_⟩:=jv h;exact hF
theorem Xj:(Tryz.prog.info? 9).map (fun i=>(i.zero,i.size,i.bytes)) = some (some (.string ⟨#[]⟩),1,16):=by kernel_rfl
theorem Ud:DL Tryz.prog 40 9 (.string ⟨#[]⟩) 1 16:=⟨Tryz.underlying40,Xj,rfl,J⟩
theorem P8 {w:World} {x:ByteArray} {cs:List Value} {F:List Nat} (h:rd w x cs F):F = []:=h.2.1
theorem apQ:(Tryz.prog.info? 70).map (fun i=>(i.zero,i.size,i.bytes)) = some (some ((.agg #[.string ⟨#[]⟩,.int .i64 0,.slice none 0 0])),3,48):=by kernel_rfl
theorem apf:DL Tryz.prog 32 70 ((.agg #[.string ⟨#[]⟩,.int .i64 0,.slice none 0 0])) 3 48:=⟨Tryz.underlying32,apQ,rfl,J⟩
structure pt (w wk:World) (cs zs os:List Value):Prop where
 cS:oG wk w.heap.size cs
 rb:oG wk (w.heap.size+1) zs
 ob:oG wk (w.heap.size+1+1) os
 aE:Below w.heap.size w wk
section
variable {w wk w':World} {cs zs os:List Value}
theorem pt.new (w:World) (cs zs os:List Value) (t t2 t3:TypeId):pt w (((w.alloc (.cells cs.toArray t)).alloc (.cells zs.toArray t2)).alloc (.cells os.toArray t3)) cs zs os :=
 ⟨((oG.new w cs t).ext (ak (aj _) _)).ext (ak (aj _) _),(by have:=oG.new (w.alloc (.cells cs.toArray t)) zs t2;rw [World.size_alloc] at this;exact this.ext (ak (aj _) _)),(by have:=oG.new ((w.alloc (.cells cs.toArray t)).alloc (.cells zs.toArray t2)) os t3;rw [World.size_alloc,World.size_alloc] at this;exact this),ak (ak (ak (aj _) _) _) _⟩
theorem pt.ext (h:pt w wk cs zs os) (U:Below wk.heap.size wk w'):pt w w' cs zs os:=⟨h.cS.ext U,h.rb.ext U,h.ob.ext U,ah h.aE U⟩
theorem pt.put (h:pt w wk cs zs os) (i:Nat) (u:Value):pt w (wk.setCell ⟨w.heap.size+1+1,i,none⟩ u) cs zs (os.set i u):=⟨h.cS.bj J i u,h.rb.bj J i u,h.ob.put i u,aC h.aE bC u⟩
end
theorem Kj {α:Type} [bb α] {w w':World} {x:α} {cs:List Value} {F:List Nat} (h:rd w x cs F) (U:Below w.heap.size w w'):rd w' x cs F:=bb.frame h (fun b eo=>U.block b (bb.lt h b eo)) U.size
theorem rQ {w w':World} {B e size n b:Nat} {v:Value} {xs:List Value} (h:w.ownsRow B e size v n xs) (hu:nN [b] w w') (U:b < B):w'.ownsRow B e size v n xs :=
 h.kept (row:=some b) ⟨hu.os,hu.tape,hu.output,hu.size,fun k hk bX=>hu.block k hk (by simpa using fun e=>bX (by rw [e]))⟩ (by
   by_cases hv:v.ownBlock = some b
   ·have:=(h.lt b hv).1;omega
   ·exact .inr hv)
theorem nN.alloc {F:List Nat} {w w1:World} (h:nN F w w1) (o:Obj):nN F w (w1.alloc o):=h.trans (nN.lq F (ak (aj _) o))
theorem fY (b:Nat):∀(vs:List Value) (o:Nat) (w:World),(w.setCells b o vs).heap.size = w.heap.size
 | [],_,_=>rfl
 | v :: r,o,w=>by rw [World.setCells,fY b r];simp [World.setCell]
theorem vV (b:Nat) {k:Nat} (hk:k≠b):∀(vs:List Value) (o:Nat) (w:World),(w.setCells b o vs).heap[k]? = w.heap[k]?
 | [],_,_=>rfl
 | v :: r,o,w=>by rw [World.setCells,vV b hk r];exact Below.heap_setCell _ _ _ _ bC
theorem F8 (b:Nat):∀(vs:List Value) (o:Nat) (w:World),(w.setCells b o vs).os = w.os∧(w.setCells b o vs).tape = w.tape∧(w.setCells b o vs).output = w.output
 | [],_,_=>⟨rfl,rfl,rfl⟩
 | v :: r,o,w=>by rw [World.setCells];exact F8 b r (o+1) _
theorem EK (b:Nat):∀(vs:List Value) (o:Nat) (w:World),ey w b→ey (w.setCells b o vs) b
 | [],_,_,h=>h
 | v :: r,o,w,h=>by rw [World.setCells];exact EK b r (o+1) _ (h.setCell b o v)
def eE (w:World) (B:Nat) (e:TypeId) (size:Nat) (A:Option Addr) (c:Nat):Prop :=
 (A = none∧c = 0)∨∃g dT,A = some ⟨g,0,none⟩∧B≤g∧w.heap[g]? = some (.cells dT e (0,0))∧c≤maxLen∧dT.size = c * size
section
variable {w w':World} {B size c:Nat} {e:TypeId} {A:Option Addr}
theorem eE.oJ {B' n m:Nat} {xs:List Value} (h:w.ownsRow B' e size (.slice A n c) m xs) (hB:B≤B'):eE w B e size A c:=by
 rcases h.2 with ⟨Z,_⟩ | ⟨g,ar,dT,Z,h2,h3,h4,h5,h6,_⟩
 ·simp only [Value.slice.injEq] at Z;exact .inl ⟨Z.1,Z.2.2⟩
 ·simp only [Value.slice.injEq] at Z;obtain ⟨rfl,_,rfl⟩:=Z;exact .inr ⟨g,dT,rfl,Nat.le_trans hB h2,h3,h5,h6⟩
theorem eE.ext (h:eE w B e size A c) (U:Below w.heap.size w w'):eE w' B e size A c:=by
 rcases h with h | ⟨g,dT,Z,h2,h3,h4⟩
 ·exact .inl h
 ·have hg:g < w.heap.size:=by
   exact xR
  exact .inr ⟨g,dT,Z,h2,(U.block g hg).trans h3,h4⟩
theorem eE.drawn {b:Nat} (h:eE w B e size A c) (hu:nN [b] w w') (U:b < B):eE w' B e size A c:=by
 rcases h with h | ⟨g,dT,Z,h2,h3,h4⟩
 ·exact .inl h
 ·have hg:g < w.heap.size:=by
   exact xR
  exact .inr ⟨g,dT,Z,h2,(hu.block g hg (by simp;omega)).trans h3,h4⟩
theorem eE.mono {B':Nat} (h:eE w B e size A c) (hB:B'≤B):eE w B' e size A c:=by
 rcases h with h | ⟨g,dT,Z,h2,h3⟩
 ·exact .inl h
 ·exact .inr ⟨g,dT,Z,Nat.le_trans hB h2,h3⟩
theorem eE.lt (h:eE w B e size A c):∀g,A = some ⟨g,0,none⟩→g < w.heap.size:=by
 rintro g rfl;rcases h with ⟨h,_⟩ | ⟨g,dT,Z,h2,h3,h4⟩
 ·cases h
 ·simp only [Option.some.injEq,Addr.mk.injEq,and_true] at Z;subst Z;exact xR
theorem eE.bm (h:eE w B e size A c) (hk:∀g,A = some ⟨g,0,none⟩→w'.heap[g]? = w.heap[g]?):eE w' B e size A c:=by
 rcases h with h | ⟨g,dT,Z,h2,h3,h4⟩
 ·exact .inl h
 ·exact .inr ⟨g,dT,Z,h2,(hk g Z).trans h3,h4⟩
theorem eE.bj {b:Nat} (h:eE w B e size A c) (U:b < B) (j:Nat) (v:Value):eE (w.setCell ⟨b,j,none⟩ v) B e size A c:=by
 rcases h with h | ⟨g,dT,Z,h2,h3,h4⟩
 ·exact .inl h
 ·exact .inr ⟨g,dT,Z,h2,(Below.heap_setCell _ _ _ _ bC).trans h3,h4⟩
theorem am.nX {α:Type} [bb α] {xs:List α} {F:List Nat} (h:am w B xs [.slice A xs.length c] F) (hr:eE w B e (bb.size α) A c):∃ds G,w.ownsRow B e (bb.size α) (.slice A xs.length c) xs.length ds∧aY w B xs ds G∧(∀g,(Value.slice A xs.length c).ownBlock = some g→g∉G):=by
 obtain ⟨A',c',G,ds,e0,hl,hm,hc,h0⟩:=h.rd;simp only [List.cons.injEq,Value.slice.injEq,and_true,true_and] at e0;obtain ⟨rfl,rfl⟩:=e0;have gg:ds.length = xs.length * bb.size α:=hc.len;rcases h0 with ⟨hx,qp⟩ | ⟨b,o,U,lX,av,bJ⟩
 ·subst hx;obtain rfl:ds = []:=List.eq_nil_of_length_eq_zero (by simpa using gg);refine ⟨[],[],⟨S',?_⟩,aY.nil w B,fun g _ hg=>by cases hg⟩;rcases hr with ⟨rfl,rfl⟩ | ⟨g,dT,rfl,h2,h3,h4,h5⟩
  ·exact .inl ⟨rfl,rfl⟩
  ·exact .inr ⟨g,c,dT,rfl,h2,h3,hl,h4,h5,S'⟩
 ·subst U;rcases hr with ⟨Z,_⟩ | ⟨g,dT,Z,h2,h3,h4,h5⟩
  ·cases Z
  ·simp only [Option.some.injEq,Addr.mk.injEq,and_true] at Z;obtain ⟨rfl,rfl⟩:=Z;subst lX;have X:=List.nodup_cons.1 h.nodup;refine ⟨ds,G,⟨gg,.inr ⟨b,c,dT,rfl,h2,h3,hl,h4,h5,?_⟩⟩,⟨hc,X.2,fun b U=>h.base b (List.mem_cons_of_mem _ U),fun b U=>h.plain b (List.mem_cons_of_mem _ U)⟩,fun q hq=>by simp only [Value.ownBlock,Option.some.injEq] at hq;subst hq;exact X.1⟩;apply List.ext_getElem?;intro j;rw [List.getElem?_take];by_cases hj:j < xs.length * bb.size α
   ·rw [if_pos hj];have hd:ds[j]? = some ds[j]:=List.getElem?_eq_getElem J;have:=bJ j _ hd;rw [Nat.zero_add,cell_of_row w b j dT e (0,0) h3] at this;rw [hd,← this];simp
   ·rw [if_neg hj,List.getElem?_eq_none J]
end
end Go.Proofs.YtajbbmembionpaaGreat
