/- The cursor of a draw: where it lies and what it reads. No condition. -/
import Derived.Test.YtdegaofigemegaaGreatToBase
import Derived.Deep.Upon
namespace Go.Proofs.YtdegaofigemegaaGreat
open Go.ChangeShapes Go.WideShapes Go.ChangeAt Go.RowKit
set_option linter.unusedVariables false
set_option linter.unusedSimpArgs false
set_option maxHeartbeats 4000000
set_option maxRecDepth 1000000
instance:ax UInt8 where
 size:=1
 pos:=by omega
 rd _ n cs F:=cs = [.int .u8 (n.toNat:Int)]/\F = []
 len h:=by rw [h.1];rfl
 one h:=by rw [h.1];intro u hu;simp at hu;subst hu;rfl
 lt h:=by rw [h.2];intro b hb;cases hb
 frame h _ _:=h
theorem aBV {P:Program} {t:TypeId} (ht:P.underlying t = some (.int .u8)):vt P t UInt8:=by
 intro H enc w base fY spare held cs d h;obtain ⟨n,rfl,_,hw⟩:=DataW.trod_int ht h;have h2:0<=n/\n<=255:=by
  have:=hw;simp [Lit.wf,IntKind.min,IntKind.max,IntKind.signed,IntKind.bits] at this;exact this
 refine ⟨UInt8.ofNat n.toNat,[],?_,rfl⟩;have e:((UInt8.ofNat n.toNat).toNat:Int) = n:=by
  have h3:(UInt8.ofNat n.toNat).toNat = n.toNat % 256:=by simp
  rw [h3];omega
 rw [e]
def cD (w:World) (c:Nat) (A:Option Addr) (n cap:Nat):Prop :=
 (∃(i h:Int) (t:TypeId),w.heap[c]? = some (.cells #[.slice A n cap,.int .i64 i,.int .i64 h] t (0,0))/\(0<=i/\i<=n)/\bt h) /\
 (∀k,k < n->∃(g o:Nat) (v:Int),A = some ⟨g,o,none⟩/\g < c/\w.cell? ⟨g,o+k,none⟩ = some (.int .u8 v)/\0<=v/\v<=255)/\(n:Int)<=1048576
section
variable {w w':World} {c:Nat} {A:Option Addr} {n cap:Nat}
theorem cD.lt (h:cD w c A n cap):c < w.heap.size:=by
 obtain ⟨⟨i,x,t,h,_⟩,_⟩:=h;rcases Nat.lt_or_ge c w.heap.size with ap | rv
 ·exact ap
 ·rw [Array.getElem?_eq_none rv] at h;cases h
theorem cD.ext (h:cD w c A n cap) (hb:Below w.heap.size w w'):cD w' c A n cap:=by
 have ap:=h.lt;obtain ⟨⟨i,x,t,h1,h2⟩,h3,h4⟩:=h;refine ⟨⟨i,x,t,(hb.block c ap).trans h1,h2⟩,λk hk=>?_,h4⟩;obtain ⟨g,o,v,e,hg,hc,hv⟩:=h3 k hk;exact ⟨g,o,v,e,hg,(World.cell?_of_block (hb.block g J)).trans hc,hv⟩
theorem cD.drew (h:cD w c A n cap):cD w.drew c A n cap:=h.ext (aA (aj _))
theorem cD.bL (h:cD w c A n cap) {b:Nat} (hb:c < b) (i:Nat) (u:Value):cD (w.setCell ⟨b,i,none⟩ u) c A n cap:=by
 obtain ⟨⟨j,x,t,h1,h2⟩,h3,h4⟩:=h;refine ⟨⟨j,x,t,(Below.heap_setCell _ _ _ _ bx).trans h1,h2⟩,λk hk=>?_,h4⟩;exact DP
theorem cD.place (h:cD w c A n cap) {i:Int} (hi:0<=i/\i<=n):cD (w.setCell ⟨c,1,none⟩ (.int .i64 i)) c A n cap:=by
 obtain ⟨⟨j,x,t,h1,h2⟩,h3,h4⟩:=h;refine ⟨⟨i,x,t,by simp [World.setCell,Array.getElem?_modify,h1],hi,h2.2⟩,λk hk=>?_,h4⟩;exact DP
theorem cD.number (h:cD w c A n cap) {x:Int} (hx:bt x):cD (w.setCell ⟨c,2,none⟩ (.int .i64 x)) c A n cap:=by
 obtain ⟨⟨j,y,t,h1,h2⟩,h3,h4⟩:=h;refine ⟨⟨j,x,t,by simp [World.setCell,Array.getElem?_modify,h1],h2.1,hx⟩,λk hk=>?_,h4⟩;exact DP
theorem cD.cells (h:cD w c A n cap):∃i x:Int,(0<=i/\i<=n)/\bt x/\w.cell? ⟨c,0,none⟩ = some (.slice A n cap)/\w.cell? ⟨c,1,none⟩ = some (.int .i64 i)/\w.cell? ⟨c,2,none⟩ = some (.int .i64 x)/\∀k,w.frozen? ⟨c,k,none⟩ = false:=by
 obtain ⟨⟨i,x,t,h,h2⟩,_⟩:=h;refine ⟨i,x,h2.1,h2.2,?_,?_,?_,λk=>by simp [World.frozen?,h]⟩
 ·rw [cell_of_row w c 0 _ t (0,0) h];rfl
 ·rw [cell_of_row w c 1 _ t (0,0) h];rfl
 ·rw [cell_of_row w c 2 _ t (0,0) h];rfl
theorem cD.byte (h:cD w c A n cap) {k:Nat} (hk:k < n):∃(g o:Nat) (v:Int),A = some ⟨g,o,none⟩/\g < c/\w.cell? ⟨g,o+k,none⟩ = some (.int .u8 v)/\0<=v/\v<=255:=h.2.1 k hk
theorem cD.small (h:cD w c A n cap):(n:Int)<=1048576:=h.2.2
end
theorem Zp {P:Program} (w:World) (t e ty:TypeId) (z:Value) (ht:P.underlying t = some (.slice e)) (hv:∀w,(zeroValue e).run P w = .ok z w) (h1:∀u∈z.cells.toList,u.oneCell' = true) (b o c:Nat)
 (hc:∀j,j < z.cells.size->(w.cell? ⟨b,o+j,none⟩).isSome = true) (hf:∀j,j < z.cells.size->w.frozen? ⟨b,o+j,none⟩ = false) :
 (Builtin.clear_ #[t] ty #[.slice (some ⟨b,o,none⟩) 1 c]).run P w = .ok (.tuple #[]) (w.setCells b o z.cells.toList):=by
 have yK:(Builtin.zeroCells z.cells 1).toList = z.cells.toList:=by
  apply List.ext_getElem
  ·simp [Builtin.zeroCells]
  ·intro i h1 h2;simp [Builtin.zeroCells] at h1 |-;simp [Nat.mod_eq_of_lt (show i < z.cells.size from by simpa using h2),show i < z.cells.size from by simpa using h2]
 have lM:=run_storeCells_cells (P:=P) b o z.cells.toList 0 w (by simpa using hc) (by simpa using hf) h1;simp only [Nat.add_zero] at lM;simp [Builtin.clear_,run_underlying ht,hv,yK,lM]
theorem bk (b:Nat):∀(vs:List Value) (o:Nat) (w:World),(w.setCells b o vs).heap.size = w.heap.size
 | [],_,_=>rfl
 | v :: r,o,w=>by rw [World.setCells,bk b r];simp [World.setCell]
theorem vV (b:Nat) {k:Nat} (hk:k≠b):∀(vs:List Value) (o:Nat) (w:World),(w.setCells b o vs).heap[k]? = w.heap[k]?
 | [],_,_=>rfl
 | v :: r,o,w=>by rw [World.setCells,vV b hk r];exact Below.heap_setCell _ _ _ _ bx
theorem F8 (b:Nat):∀(vs:List Value) (o:Nat) (w:World),(w.setCells b o vs).os = w.os/\(w.setCells b o vs).tape = w.tape/\(w.setCells b o vs).output = w.output
 | [],_,_=>⟨rfl,rfl,rfl⟩
 | v :: r,o,w=>by rw [World.setCells];exact F8 b r (o+1) _
theorem EK (b:Nat):∀(vs:List Value) (o:Nat) (w:World),Plain w b->Plain (w.setCells b o vs) b
 | [],_,_,h=>h
 | v :: r,o,w,h=>by rw [World.setCells];exact EK b r (o+1) _ (h.setCell b o v)
theorem ai.del {α:Type} [ax α] {w:World} {B c:Nat} {xs:List α} {A:Option Addr} {F:List Nat} (h:ai w B xs [.slice A xs.length c] F) {i:Nat} (hi:i < xs.length) :
 ∃b o ds,A = some ⟨b,o,none⟩/\b∈F/\b < w.heap.size/\xs.length<=c/\c<=maxLen/\ds.length = xs.length * ax.size α/\(∀u∈ds,u.oneCell' = true)/\rI w b o ds/\Plain w b /\
  ∀W:World,(∀k,k≠b->W.heap[k]? = w.heap[k]?)->W.heap.size = w.heap.size->Plain W b->rI W b o (ds.take (i * ax.size α)++ds.drop ((i+1) * ax.size α)) ->
   ∃F',ai W B (xs.eraseIdx i) [.slice A (xs.length - 1) c] F'/\∀y∈F',y∈F:=by
 obtain ⟨⟨A',c',G,ds,e,cU,bM,hc,h0⟩,hnd,df,hplain⟩:=h;simp only [List.cons.injEq,Value.slice.injEq,and_true,true_and] at e;obtain ⟨rfl,rfl⟩:=e;rcases h0 with h0 | ⟨b,o,rfl,rfl,hb,bv⟩
 ·rw [h0.1] at hi;cases hi
 refine ⟨b,o,ds,rfl,List.mem_cons_self ..,hb,cU,bM,hc.len,hc.one,bv,hplain b (List.mem_cons_self ..),λW hk hz hp hcW=>?_⟩;obtain ⟨d1,ck,d2,G1,Fk,G2,rfl,rfl,r1,r2,r3,ke⟩:=hc.split hi;have Ea:=ax.len r2;have e1:(d1++(ck++d2)).take (i * ax.size α) = d1:=by rw [<- ke,List.take_left]
 have e2:(d1++(ck++d2)).drop ((i+1) * ax.size α) = d2:=by exact Mv
 rw [e1,e2] at hcW;simp only [List.nodup_cons,List.nodup_append,List.mem_append,not_or] at hnd;have hx:(xs.eraseIdx i) = xs.take i++xs.drop (i+1):=List.eraseIdx_eq_take_drop_succ ..;have hl:(xs.eraseIdx i).length = xs.length - 1:=by rw [List.length_eraseIdx,if_pos hi]
 have bi:∀y∈G1++G2,y∈b :: (G1++(Fk++G2)):=λy hy=>by
  rcases List.mem_append.1 hy with hy | hy <;> simp [hy]
 have gU:∀y∈G1++G2,W.heap[y]? = w.heap[y]?:=λy hy=>hk y (by
  rintro rfl;rcases List.mem_append.1 hy with hy | hy
  ·exact hnd.1.1 hy
  ·exact hnd.1.2.2 hy)
 refine ⟨b :: (G1++G2),⟨⟨_,c,G1++G2,d1++d2,by rw [hl],by rw [hl];omega,bM,?_,.inr ⟨b,o,rfl,rfl,J,hcW⟩⟩,?_,?_,?_⟩,?_⟩
 ·rw [hx];exact (r1.frame (λy hy=>gU y (List.mem_append_left _ hy)) J).append (r3.frame (λy hy=>gU y (List.mem_append_right _ hy)) J)
 ·rw [List.nodup_cons,List.nodup_append];refine ⟨λdP=>?_,hnd.2.1,hnd.2.2.1.2.1,λx hx y hy=>hnd.2.2.2 x hx y (Or.inr hy)⟩;rcases List.mem_append.1 dP with dP | dP
  ·exact hnd.1.1 dP
  ·exact hnd.1.2.2 dP
 ·intro y hy;rcases List.mem_cons.1 hy with rfl | hy
  ·exact df _ (List.mem_cons_self ..)
  ·exact df y (bi y hy)
 ·intro y hy;rcases List.mem_cons.1 hy with rfl | hy
  ·exact hp
  ·rw [gU y hy];exact hplain y (bi y hy)
 ·intro y hy;rcases List.mem_cons.1 hy with rfl | hy
  ·exact List.mem_cons_self ..
  ·exact bi y hy
theorem Sg (a:Int) (m:Nat) (hm:m < 9223372036854775808):0<=bits .and .i64 a (m:Int)/\bits .and .i64 a (m:Int)<=m:=by
 have h2:(BitVec.ofInt 64 (m:Int)).toNat = m:=by rw [BitVec.ofInt_natCast,BitVec.toNat_ofNat];exact Nat.mod_eq_of_lt J
 have h3:(BitVec.ofInt 64 a &&& BitVec.ofInt 64 (m:Int)).toNat<=m:=by rw [BitVec.toNat_and,h2];exact Nat.and_le_right
 have e:bits .and .i64 a (m:Int) = IntKind.i64.wrap ((BitVec.ofInt 64 a &&& BitVec.ofInt 64 (m:Int)).toNat:Int):=rfl;rw [e,IntKind.wrap_i64];omega
theorem aC6 (a:Int):bt (wrap64 a):=by unfold wrap64 bt;omega
theorem Pd (w:World) (c:Nat) (A:Option Addr) (n cap:Nat) (h:cD w c A n cap) :
 Calls Tryz.prog 47 #[.pointer (some ⟨c,0,none⟩)] w λe w'=>∃r:Int,e = .returned (.int .i64 r)/\(0<=r/\r<=255)/\cD w' c A n cap/\nN [c] w w':=by
 obtain ⟨i0,x0,hi,hx,c0,c1,c2,sC⟩:=h.cells;have ap:=h.lt;have cB:=sC 2;have H:=I h;clear h sC hi hx;go_enter Tryz.func47,Tryz.ntmps47;go_wp2;have hu:nN [c] w (w.setCell ⟨c,2,none⟩ (.int .i64 (wrap64 (wrap64 (x0 * 6364136223846793005)+1442695040888963407)))):=(nN.refl _ _).setCell S' _;have H1:=H.out.number (x:=wrap64 (wrap64 (x0 * 6364136223846793005)+1442695040888963407)) (aC6 _);generalize w.setCell ⟨c,2,none⟩ (.int .i64 (wrap64 (wrap64 (x0 * 6364136223846793005)+1442695040888963407))) = w1 at *;clear c0 c1 c2 cB;obtain ⟨i,x,hi,hx,c0,c1,c2,sC⟩:=H1.cells;have hs:=H1.small;have ek:=sC 1;have dy:=H1.lt;by_cases hk:i < n
 ·obtain ⟨k,rfl⟩:∃k:Nat,i = k:=⟨i.toNat,J⟩;obtain ⟨g,o,v,rfl,hg,hv,ic,hv1⟩:=H1.byte (k:=k) J;replace H1:=I H1;go_region
  obtain ⟨y,hy,hy0,Bk⟩:∃y,bits BinOp.and IntKind.i64 (bits BinOp.xor IntKind.i64 (x / 8589934592) (x / 35184372088832)) 255 = y/\0<=y/\y<=255:=⟨_,rfl,Sg _ 255 (by decide)⟩;simp only [hy];clear hy;go_wp2;go_region
  go_wp2;go_region
  go_wp2;go_ret
  exact ⟨_,rfl,Sg _ 255 (by decide),(H1.out.place J).drew.drew.drew,((hu.setCell S' _).drew.drew.drew)⟩
 ·replace H1:=I H1;go_region
  obtain ⟨y,hy,hy0,Bk⟩:∃y,bits BinOp.and IntKind.i64 (bits BinOp.xor IntKind.i64 (x / 8589934592) (x / 35184372088832)) 255 = y/\0<=y/\y<=255:=⟨_,rfl,Sg _ 255 (by decide)⟩;simp only [hy];clear hy;go_wp2;go_region
  go_wp2;go_ret
  exact ⟨_,rfl,⟨hy0,Bk⟩,H1.out.drew.drew,hu.drew.drew⟩
theorem oe (m:Nat) (hm:0 < m/\(m:Int)<=1000000000) (w:World) (c:Nat) (A:Option Addr) (n cap:Nat) (h:cD w c A n cap) :
 Calls Tryz.prog 24 #[.pointer (some ⟨c,0,none⟩),.int .i64 m] w λe w'=>∃r:Nat,e = .returned (.int .i64 r)/\r < m/\cD w' c A n cap/\nN [c] w w':=by
 obtain ⟨hm0,pn⟩:=hm;have ap:=h.lt;have HC:=I h;clear h;by_cases hs:(m:Int)<=256
 ·go_enter Tryz.func24,Tryz.ntmps24;go_wp2_with fail
  refine (Pd _ c A n cap HC.out).mono ?_;rintro e w1 ⟨r,rfl,⟨cc,iB⟩,H1,hu⟩;obtain ⟨k,rfl⟩:∃k:Nat,r = k:=⟨r.toNat,J⟩;replace H1:=I H1;go_wp2;go_ret
  exact ⟨k % m,S',Nat.mod_lt _ hm0,H1.out,hu⟩
 ·go_enter Tryz.func24,Tryz.ntmps24;go_wp2_with fail
  refine (Pd _ c A n cap HC.out).mono ?_;rintro e w1 ⟨r1,rfl,⟨cc,iB⟩,H1,hu1⟩;replace H1:=I H1;go_wp2_with fail
  refine (Pd _ c A n cap H1.out).mono ?_;rintro e w2 ⟨r2,rfl,⟨Ww,x3⟩,H2,dB⟩;replace H2:=I H2;go_wp2_with fail
  refine (Pd _ c A n cap H2.out).mono ?_;rintro e w3 ⟨r3,rfl,⟨ky,cS⟩,H3,cP⟩;replace H3:=I H3;go_wp2_with fail
  refine (Pd _ c A n cap H3.out).mono ?_;rintro e w4 ⟨r4,rfl,⟨ht0,ht1⟩,H4,Td⟩;replace H4:=I H4;go_wp2;go_ret
  obtain ⟨q,hq⟩:∃q:Nat,r1 * 16777216+r2 * 65536+r3 * 256+r4 = q:=⟨(r1 * 16777216+r2 * 65536+r3 * 256+r4).toNat,J⟩;exact ⟨q % m,(by simp [hq]),Nat.mod_lt _ hm0,H4.out,(hu1.trans dB).trans (cP.trans Td)⟩
theorem FK (m:Nat) (hm:0 < m/\(m:Int)<=1000000000) (w:World) (c:Nat) (A:Option Addr) (n cap:Nat) (h:cD w c A n cap) :
 Calls Tryz.prog 27 #[.pointer (some ⟨c,0,none⟩),.int .i64 m] w λe w'=>∃r:Bool,e = .returned (.bool r)/\cD w' c A n cap/\nN [c] w w':=by
 have HC:=I h;clear h;have HM:=I hm;clear hm;go_enter Tryz.func27,Tryz.ntmps27;go_wp2_with fail
 refine (oe m HM.out _ c A n cap HC.out).mono ?_;rintro e w1 ⟨k,rfl,hk,H1,hu⟩;replace H1:=I H1;go_wp2;go_ret
 exact ⟨_,rfl,H1.out,hu⟩
theorem Wz (S:ByteArray->Prop) (g m mc:Nat) (hm:0 < m/\(m:Int)<=1000000000) (w:World) (c:Nat) (A:Option Addr) (n cap:Nat) (h:cD w c A n cap) (hg:g≠c) (iJ:g < w.heap.size) (hS:∀k,k < m->∃s,w.cell? ⟨g,k,none⟩ = some (.string s)/\S s) :
 Calls Tryz.prog 61 #[.pointer (some ⟨c,0,none⟩),.slice (some ⟨g,0,none⟩) m mc] w λe w'=>∃s,e = .returned (.string s)/\S s/\cD w' c A n cap/\nN [c] w w':=by
 have HC:=I h;clear h;have HM:=I hm;clear hm;go_enter Tryz.func61,Tryz.ntmps61;go_wp2_with fail
 refine (oe m HM.out _ c A n cap HC.out).mono ?_;rintro e w1 ⟨k,rfl,hk,H1,hu⟩;replace H1:=I H1;obtain ⟨s,hs,cO⟩:=hS k hk;have sy:(k:Int) < m:=by omega
 have cS:w1.cell? ⟨g,k,none⟩ = some (.string s):=by rw [<- hs];exact World.cell?_of_block (hu.block g iJ (by simpa using hg))
 go_wp2;go_ret
 exact ⟨_,rfl,cO,H1.out,hu⟩
theorem WA (S:Int->Prop) (g m mc:Nat) (hm:0 < m/\(m:Int)<=1000000000) (w:World) (c:Nat) (A:Option Addr) (n cap:Nat) (h:cD w c A n cap) (hg:g≠c) (iJ:g < w.heap.size) (hS:∀k,k < m->∃s,w.cell? ⟨g,k,none⟩ = some (.int .i64 s)/\S s) :
 Calls Tryz.prog 56 #[.pointer (some ⟨c,0,none⟩),.slice (some ⟨g,0,none⟩) m mc] w λe w'=>∃s,e = .returned (.int .i64 s)/\S s/\cD w' c A n cap/\nN [c] w w':=by
 have HC:=I h;clear h;have HM:=I hm;clear hm;go_enter Tryz.func56,Tryz.ntmps56;go_wp2_with fail
 refine (oe m HM.out _ c A n cap HC.out).mono ?_;rintro e w1 ⟨k,rfl,hk,H1,hu⟩;replace H1:=I H1;obtain ⟨s,hs,cO⟩:=hS k hk;have sy:(k:Int) < m:=by omega
 have cS:w1.cell? ⟨g,k,none⟩ = some (.int .i64 s):=by rw [<- hs];exact World.cell?_of_block (hu.block g iJ (by simpa using hg))
 go_wp2;go_ret
 exact ⟨_,rfl,cO,H1.out,hu⟩
theorem aBW (w:World) (A:Option Addr) (n cap:Nat) (hn:(n:Int)<=1048576) (cC:∀k,k < n->∃(g o:Nat) (v:Int),A = some ⟨g,o,none⟩/\g < w.heap.size/\w.cell? ⟨g,o+k,none⟩ = some (.int .u8 v)/\0<=v/\v<=255) :
 Calls Tryz.prog 13 #[.slice A n cap] w λe w'=>∃c,e = .returned (.pointer (some ⟨c,0,none⟩))/\w.heap.size<=c/\cD w' c A n cap/\Below w.heap.size w w':=by
 go_enter Tryz.func13,Tryz.ntmps13;go_wp2_with fail
 go_loopw [3,4] (λx i wr=>∃(q:Int) (k:Nat),x = .int .i64 q/\i = .int .i64 k/\(0<=q/\q<=1073741823)/\k<=n/\(k:Int)<=4000/\Below w.heap.size w wr) (λ_ i _=>n - (intOf i).toNat)
 case atStart=>exact ⟨94701+n,0,au0,rfl,J,Nat.zero_le _,J,aj _⟩
 case round =>
  obtain ⟨q,k,rfl,rfl,⟨Ww,x3⟩,hkn,hk4,hb⟩:=hrel;by_cases hk:k < n
  ·obtain ⟨g,o,v,rfl,hg,hv,ic,hv1⟩:=cC k hk;have hvw:wr.cell? ⟨g,o+k,none⟩ = some (.int .u8 v):=r' hb hv hg;have cY:(n:Int)<=cap∨True:=.inr trivial;by_cases hk5:(k:Int) < 4000
   ·have Pf:(k:Int) < n:=J;go_wp2;exact ⟨⟨_,k+1,rfl,N',Sg _ 1073741823 (by decide),J,J,hb⟩,by simp only [intOf];omega⟩
   ·have Pf:(k:Int) < n:=J;exact LX
  ·have Pf:¬(k:Int) < n:=J;exact LX
def oG (w:World) (g:Nat) (cs:List Value):Prop:=∃t,w.heap[g]? = some (.cells cs.toArray t (0,0))
section
variable {w w':World} {g:Nat} {cs:List Value}
theorem oG.lt (h:oG w g cs):g < w.heap.size:=by
 obtain ⟨t,h⟩:=h;exact MM
theorem oG.cell (h:oG w g cs) {i:Nat} {u:Value} (hi:cs[i]? = some u):w.cell? ⟨g,i,none⟩ = some u:=by
 obtain ⟨t,h⟩:=h;rw [cell_of_row w g i _ t (0,0) h];simpa using hi
theorem oG.fz (h:oG w g cs) (i:Nat):w.frozen? ⟨g,i,none⟩ = false:=by obtain ⟨t,h⟩:=h;simp [World.frozen?,h]
theorem oG.keep (h:oG w g cs) (hk:w'.heap[g]? = w.heap[g]?):oG w' g cs:=by obtain ⟨t,h⟩:=h;exact ⟨t,hk.trans h⟩
theorem oG.put (h:oG w g cs) (i:Nat) (u:Value):oG (w.setCell ⟨g,i,none⟩ u) g (cs.set i u):=by
 obtain ⟨t,h⟩:=h;exact ⟨t,by simp [World.setCell,Array.getElem?_modify,h]⟩
theorem oG.bL (h:oG w g cs) {c:Nat} (hc:c≠g) (i:Nat) (u:Value):oG (w.setCell ⟨c,i,none⟩ u) g cs:=h.keep (Below.heap_setCell _ _ _ _ bx)
theorem oG.new (w:World) (cs:List Value) (t:TypeId):oG (w.alloc (.cells cs.toArray t)) w.heap.size cs:=⟨t,heap_alloc_new w _⟩
theorem oG.ext (h:oG w g cs) (hb:Below w.heap.size w w'):oG w' g cs:=h.keep (hb.block g h.lt)
theorem oG.ce {b:Nat} (h:oG w g cs) (hu:nN [b] w w') (hg:g≠b):oG w' g cs:=h.keep (hu.block g h.lt (by simpa using hg))
end
theorem d'3 {w:World} {g:Nat} {a0 a1 a2:Value} {r:List Value} (h:oG w g (a0::a1::a2::r)):w.cell? ⟨g,0,none⟩ = some a0/\w.cell? ⟨g,1,none⟩ = some a1/\w.cell? ⟨g,2,none⟩ = some a2:=⟨h.cell (i:=0) rfl,h.cell (i:=1) rfl,h.cell (i:=2) rfl⟩
theorem cK {w:World} {g:Nat} {a0 a1 a2 a3 a4 a5:Value} {r:List Value} (h:oG w g (a0::a1::a2::a3::a4::a5::r)):w.cell? ⟨g,0,none⟩ = some a0/\w.cell? ⟨g,1,none⟩ = some a1/\w.cell? ⟨g,2,none⟩ = some a2/\w.cell? ⟨g,3,none⟩ = some a3/\w.cell? ⟨g,4,none⟩ = some a4/\w.cell? ⟨g,5,none⟩ = some a5:=⟨h.cell (i:=0) rfl,h.cell (i:=1) rfl,h.cell (i:=2) rfl,h.cell (i:=3) rfl,h.cell (i:=4) rfl,h.cell (i:=5) rfl⟩
theorem lB {w:World} {g:Nat} {a0 a1 a2 a3 a4 a5 a6:Value} {r:List Value} (h:oG w g (a0::a1::a2::a3::a4::a5::a6::r)):w.cell? ⟨g,0,none⟩ = some a0/\w.cell? ⟨g,1,none⟩ = some a1/\w.cell? ⟨g,2,none⟩ = some a2/\w.cell? ⟨g,3,none⟩ = some a3/\w.cell? ⟨g,4,none⟩ = some a4/\w.cell? ⟨g,5,none⟩ = some a5/\w.cell? ⟨g,6,none⟩ = some a6:=⟨h.cell (i:=0) rfl,h.cell (i:=1) rfl,h.cell (i:=2) rfl,h.cell (i:=3) rfl,h.cell (i:=4) rfl,h.cell (i:=5) rfl,h.cell (i:=6) rfl⟩
theorem d'9 {w:World} {g:Nat} {a0 a1 a2 a3 a4 a5 a6 a7 a8:Value} {r:List Value} (h:oG w g (a0::a1::a2::a3::a4::a5::a6::a7::a8::r)):w.cell? ⟨g,0,none⟩ = some a0/\w.cell? ⟨g,1,none⟩ = some a1/\w.cell? ⟨g,2,none⟩ = some a2/\w.cell? ⟨g,3,none⟩ = some a3/\w.cell? ⟨g,4,none⟩ = some a4/\w.cell? ⟨g,5,none⟩ = some a5/\w.cell? ⟨g,6,none⟩ = some a6/\w.cell? ⟨g,7,none⟩ = some a7/\w.cell? ⟨g,8,none⟩ = some a8:=⟨h.cell (i:=0) rfl,h.cell (i:=1) rfl,h.cell (i:=2) rfl,h.cell (i:=3) rfl,h.cell (i:=4) rfl,h.cell (i:=5) rfl,h.cell (i:=6) rfl,h.cell (i:=7) rfl,h.cell (i:=8) rfl⟩
theorem c'2 {w:World} {g:Nat} {a0 a1:Value} {r:List Value} (h:oG w g (a0::a1::r)):w.cell? ⟨g,0,none⟩ = some a0/\w.frozen? ⟨g,0,none⟩ = false/\w.cell? ⟨g,1,none⟩ = some a1/\w.frozen? ⟨g,1,none⟩ = false:=⟨h.cell (i:=0) rfl,h.fz 0,h.cell (i:=1) rfl,h.fz 1⟩
theorem US {w:World} {g:Nat} {a0 a1 a2:Value} {r:List Value} (h:oG w g (a0::a1::a2::r)):w.cell? ⟨g,0,none⟩ = some a0/\w.frozen? ⟨g,0,none⟩ = false/\w.cell? ⟨g,1,none⟩ = some a1/\w.frozen? ⟨g,1,none⟩ = false/\w.cell? ⟨g,2,none⟩ = some a2/\w.frozen? ⟨g,2,none⟩ = false:=⟨h.cell (i:=0) rfl,h.fz 0,h.cell (i:=1) rfl,h.fz 1,h.cell (i:=2) rfl,h.fz 2⟩
theorem Iu {w:World} {g:Nat} {a0 a1 a2 a3:Value} {r:List Value} (h:oG w g (a0::a1::a2::a3::r)):w.cell? ⟨g,0,none⟩ = some a0/\w.frozen? ⟨g,0,none⟩ = false/\w.cell? ⟨g,1,none⟩ = some a1/\w.frozen? ⟨g,1,none⟩ = false/\w.cell? ⟨g,2,none⟩ = some a2/\w.frozen? ⟨g,2,none⟩ = false/\w.cell? ⟨g,3,none⟩ = some a3/\w.frozen? ⟨g,3,none⟩ = false:=⟨h.cell (i:=0) rfl,h.fz 0,h.cell (i:=1) rfl,h.fz 1,h.cell (i:=2) rfl,h.fz 2,h.cell (i:=3) rfl,h.fz 3⟩
theorem rL {w:World} {g:Nat} {a0 a1 a2 a3 a4 a5:Value} {r:List Value} (h:oG w g (a0::a1::a2::a3::a4::a5::r)):w.cell? ⟨g,0,none⟩ = some a0/\w.frozen? ⟨g,0,none⟩ = false/\w.cell? ⟨g,1,none⟩ = some a1/\w.frozen? ⟨g,1,none⟩ = false/\w.cell? ⟨g,2,none⟩ = some a2/\w.frozen? ⟨g,2,none⟩ = false/\w.cell? ⟨g,3,none⟩ = some a3/\w.frozen? ⟨g,3,none⟩ = false/\w.cell? ⟨g,4,none⟩ = some a4/\w.frozen? ⟨g,4,none⟩ = false/\w.cell? ⟨g,5,none⟩ = some a5/\w.frozen? ⟨g,5,none⟩ = false:=⟨h.cell (i:=0) rfl,h.fz 0,h.cell (i:=1) rfl,h.fz 1,h.cell (i:=2) rfl,h.fz 2,h.cell (i:=3) rfl,h.fz 3,h.cell (i:=4) rfl,h.fz 4,h.cell (i:=5) rfl,h.fz 5⟩
theorem zd {w:World} {g:Nat} {a0 a1 a2 a3 a4 a5 a6:Value} {r:List Value} (h:oG w g (a0::a1::a2::a3::a4::a5::a6::r)):w.cell? ⟨g,0,none⟩ = some a0/\w.frozen? ⟨g,0,none⟩ = false/\w.cell? ⟨g,1,none⟩ = some a1/\w.frozen? ⟨g,1,none⟩ = false/\w.cell? ⟨g,2,none⟩ = some a2/\w.frozen? ⟨g,2,none⟩ = false/\w.cell? ⟨g,3,none⟩ = some a3/\w.frozen? ⟨g,3,none⟩ = false/\w.cell? ⟨g,4,none⟩ = some a4/\w.frozen? ⟨g,4,none⟩ = false/\w.cell? ⟨g,5,none⟩ = some a5/\w.frozen? ⟨g,5,none⟩ = false/\w.cell? ⟨g,6,none⟩ = some a6/\w.frozen? ⟨g,6,none⟩ = false:=⟨h.cell (i:=0) rfl,h.fz 0,h.cell (i:=1) rfl,h.fz 1,h.cell (i:=2) rfl,h.fz 2,h.cell (i:=3) rfl,h.fz 3,h.cell (i:=4) rfl,h.fz 4,h.cell (i:=5) rfl,h.fz 5,h.cell (i:=6) rfl,h.fz 6⟩
theorem ER {w:World} {g:Nat} {a0 a1 a2 a3 a4 a5 a6 a7 a8 a9 a10 a11 a12 a13:Value} {r:List Value} (h:oG w g (a0::a1::a2::a3::a4::a5::a6::a7::a8::a9::a10::a11::a12::a13::r)):w.cell? ⟨g,0,none⟩ = some a0/\w.frozen? ⟨g,0,none⟩ = false/\w.cell? ⟨g,1,none⟩ = some a1/\w.frozen? ⟨g,1,none⟩ = false/\w.cell? ⟨g,2,none⟩ = some a2/\w.frozen? ⟨g,2,none⟩ = false/\w.cell? ⟨g,3,none⟩ = some a3/\w.frozen? ⟨g,3,none⟩ = false/\w.cell? ⟨g,4,none⟩ = some a4/\w.frozen? ⟨g,4,none⟩ = false/\w.cell? ⟨g,5,none⟩ = some a5/\w.frozen? ⟨g,5,none⟩ = false/\w.cell? ⟨g,6,none⟩ = some a6/\w.frozen? ⟨g,6,none⟩ = false/\w.cell? ⟨g,7,none⟩ = some a7/\w.frozen? ⟨g,7,none⟩ = false/\w.cell? ⟨g,8,none⟩ = some a8/\w.frozen? ⟨g,8,none⟩ = false/\w.cell? ⟨g,9,none⟩ = some a9/\w.frozen? ⟨g,9,none⟩ = false/\w.cell? ⟨g,10,none⟩ = some a10/\w.frozen? ⟨g,10,none⟩ = false/\w.cell? ⟨g,11,none⟩ = some a11/\w.frozen? ⟨g,11,none⟩ = false/\w.cell? ⟨g,12,none⟩ = some a12/\w.frozen? ⟨g,12,none⟩ = false/\w.cell? ⟨g,13,none⟩ = some a13/\w.frozen? ⟨g,13,none⟩ = false:=⟨h.cell (i:=0) rfl,h.fz 0,h.cell (i:=1) rfl,h.fz 1,h.cell (i:=2) rfl,h.fz 2,h.cell (i:=3) rfl,h.fz 3,h.cell (i:=4) rfl,h.fz 4,h.cell (i:=5) rfl,h.fz 5,h.cell (i:=6) rfl,h.fz 6,h.cell (i:=7) rfl,h.fz 7,h.cell (i:=8) rfl,h.fz 8,h.cell (i:=9) rfl,h.fz 9,h.cell (i:=10) rfl,h.fz 10,h.cell (i:=11) rfl,h.fz 11,h.cell (i:=12) rfl,h.fz 12,h.cell (i:=13) rfl,h.fz 13⟩
theorem mY {w:World} {B e size n:Nat} {v:Value} {xs:List Value} (h:w.ownsRow B e size v n xs):∃A c,v = .slice A n c:=by
 rcases h.2 with ⟨rfl,hn⟩ | ⟨g,cap,cj,rfl,_⟩
 ·subst hn;exact ⟨none,0,rfl⟩
 ·exact ⟨_,_,rfl⟩
theorem EJ {w:World} {B e size n c i:Nat} {v u:Value} {xs:List Value} (h:w.ownsRow B e size v n xs) (hc:∀g,v.ownBlock = some g->g≠c):(w.setCell ⟨c,i,none⟩ u).ownsRow B e size v n xs :=
 h.kept (row:=some c) ⟨rfl,rfl,rfl,by simp [World.setCell],λk hk bI=>Below.heap_setCell _ _ _ _ (by intro e;apply bI;rw [e])⟩ (by
   by_cases hv:v.ownBlock = some c
   ·exact absurd rfl (hc c hv)
   ·exact .inr hv)
section
variable {α:Type} [ax α]
theorem aY.Ri {w w':World} {B B5 e size n:Nat} {v v':Value} {xs:List α} {ds us cs:List Value} {F G:List Nat} {x:α} (row:w.ownsRow B e size v n us) (dC:aY w B xs ds F) (bI:∀g,v.ownBlock = some g->g∉F)
 (hx:ai w B5 x cs G) (h5:B<=B5) (iF:∀g,v.ownBlock = some g->g < B5) (hF:∀y∈F,y < B5) (hg:w.grownBy w' v.ownBlock) (cF:v'.ownBlock = v.ownBlock∨v'.ownBlock = some (w.heap.size+1)) :
 aY w' B (xs++[x]) (ds++cs) (F++G)/\∀g,v'.ownBlock = some g->g∉F++G:=by
 have h1:=dC.push hx h5 hF;have uK:∀g,v.ownBlock = some g->g∉F++G:=λg hv hm=>by
  rcases List.mem_append.1 hm with hm | hm
  ·exact bI g hv hm
  ·have:=hx.base g hm;have:=iF g hv;omega
 refine ⟨h1.keep (λy hy=>hg.block y (h1.lt y hy) (λhv=>uK y hv.symm hy)) hg.size,λg hv hm=>?_⟩;rcases cF with cF | cF
 ·exact uK g (cF.symm.trans hv) hm
 ·have h2:=h1.lt g hm;rw [cF] at hv;injection hv with hv;omega
end
theorem Qb {P:Program} {t e:TypeId} {z:Value} {size bytes:Nat} (hE:DL P t e z size bytes) {o:Oper} {a:Act} {K:Act->World->Prop} {Q:Exit->Act->World->Prop} (s x:Operand)
 (ho:o.op = .call { callee:=.builtin .append,args:=#[s,x],argTypes:=#[t,t] })
 (w:World) (base:Nat) (v:Value) (n:Nat) (xs:List Value) (aw:w.ownsRow base e size v n xs) (hs:a.eval s = v)
 (cs:List Value) (hx:a.eval x = .slice (some ⟨w.heap.size,0,none⟩) 1 1) (hl:cs.length = size) (h1:∀u∈cs,u.oneCell' = true)
 (hn:n<=2097152) (sx:bytes<=4096) (df:base<=w.heap.size)
 (h:∀v' w',w'.ownsRow base e size v' (n+1) (xs++cs)->w.grownBy w' v.ownBlock->w.heap.size+1<=w'.heap.size->(v'.ownBlock = v.ownBlock∨v'.ownBlock = some (w.heap.size+1))->K (a.put o.dst v') w'):o.wp P a (w.alloc (.cells cs.toArray e)) K Q:=by
 obtain ⟨ht,gw,gP,d9⟩:=hE;obtain ⟨i,hi,hz,hsize,hb⟩:=info_parts gw;have pL:(n+1) * bytes<=2097153 * 4096:=Nat.mul_le_mul J sx;have dh:∀j u,cs[j]? = some u->(w.alloc (.cells cs.toArray e)).cell? ((⟨w.heap.size,0,none⟩:Addr).add j) = some u:=by exact DB
 obtain ⟨v',w',hr,h2,h3,h4,h5⟩:=run_append_own_at (P:=P) (w.alloc (.cells cs.toArray e)) base t o.type e i z size bytes ht hi hz hsize hb gP d9 v n xs (aw.alloc _) ⟨w.heap.size,0,none⟩ 1 1 cs J dh h1 pE J (by simp;omega);unfold Oper.wp execOp;simp only [ho,resolve,invoke,builtin,Sem.run_bind,Sem.run_pure,Result.andThen_ok,List.map_toArray,List.map_cons,List.map_nil,hs,hx,hr];refine h v' w' h2 ⟨h3.os,h3.tape,h3.output,Nat.le_trans S' h3.size,λk hk bI=>?_⟩ (by have:=h3.size;simpa using this) (by simpa using h5);rw [h3.block k (by simp;omega) bI];exact Below.heap_alloc _ _ _ hk
theorem rW {α:Type} [ax α] {P:Program} {t e:TypeId} {z:Value} {size bytes:Nat} (hE:DL P t e z size bytes) (hd:ax.size α = size) {ops:Array Oper} {rest:List Oper} {o:Oper} {a:Act} {Q:Exit->Act->World->Prop} (xp:o.guard = none) (s x:Operand)
 (ho:o.op = .call { callee:=.builtin .append,args:=#[s,x],argTypes:=#[t,t] })
 (w:World) (base:Nat) (v:Value) (n:Nat) (xs:List Value) (aw:w.ownsRow base e size v n xs) (hs:a.eval s = v)
 (ys:List α) (A:Option Addr) (c:Nat) (F:List Nat) (nu:Sl w ys A c F) (hx:a.eval x = .slice A ys.length c)
 (hn:n+ys.length<=2097152) (sx:bytes<=4096) (df:base<=w.heap.size)
 (h:∀v' w' ds G,jo w ys ds G->(∀b∈G,b∈F)->w'.ownsRow base e size v' (n+ys.length) (xs++ds)->w.grownBy w' v.ownBlock->(v'.ownBlock = v.ownBlock∨v'.ownBlock = some w.heap.size)->wpList P ops Q rest (a.put o.dst v') w'):wpList P ops Q (o :: rest) a w:=by
 subst hd;obtain ⟨ht,gw,gP,d9⟩:=hE;obtain ⟨i,hi,hz,hsize,hb⟩:=info_parts gw;have pL:(n+ys.length) * bytes<=2097152 * 4096:=Nat.mul_le_mul hn sx;obtain ⟨A',c',G,ds,e0,h1,h2,hc,h0⟩:=nu;simp only [List.cons.injEq,Value.slice.injEq,and_true,true_and] at e0;obtain ⟨rfl,rfl⟩:=e0;have some_:∀(ad:Addr),A = some ad->(∀j u,ds[j]? = some u->w.cell? (ad.add j) = some u)->wpList P ops Q (o :: rest) a w:=by
  intro ad hA bv;subst hA;have hG:∀b∈G,b∈F:=by
   rcases h0 with ⟨rfl,rfl⟩ | ⟨b,o',_,rfl,_⟩
   ·rw [hc.2];intro b hb;cases hb
   ·intro x hx;exact List.mem_cons_of_mem _ hx
  exact wpList_append_own_at w xp s x t ho base e i z (ax.size α) bytes ht hi hz hsize hb gP d9 v n xs hs aw ad ys.length c ds hx hc.len bv hc.one pE J df (λv' w' oR hg _ cF=>h v' w' ds G hc hG oR hg cF)
 rcases h0 with ⟨rfl,rfl⟩ | ⟨b,o',hA,rfl,hb,bv⟩
 ·obtain ⟨rfl,rfl⟩:=hc;cases A with
  | some ad=>exact some_ ad rfl (λj u hu=>by simp at hu)
  | none =>
    have fin:∀(A2:Option Addr) (cap:Nat),v = .slice A2 n cap->n<=cap->wpList P ops Q (o :: rest) a w:=by intro A2 cap hv eW;refine wpList_plain xp λK hK=>?_;have hr:=run_append_nothing (P:=P) w t t o.type e i ht hi A2 n cap eW (.slice none 0 c) (Src.ofNil w ht c);unfold Oper.wp execOp;simp only [ho,resolve,invoke,builtin,Sem.run_bind,Sem.run_pure,Result.andThen_ok,List.map_toArray,List.map_cons,List.map_nil,hs,hv,hx,List.length_nil,hr];refine hK _ _ ?_;subst hv;exact h _ w [] [] ⟨rfl,rfl⟩ (λb hb=>hb) (by simpa using aw) ⟨rfl,rfl,rfl,Nat.le_refl _,λ_ _ _=>rfl⟩ (.inl rfl)
    rcases aw.2 with ⟨hv,hn0⟩ | ⟨g,cap,cj,hv,_,_,eW,_⟩
    ·exact fin none 0 (by rw [hv,hn0]) J
    ·exact fin _ cap hv eW
 ·refine some_ _ hA λj u hu=>?_;rw [show (⟨b,o',none⟩:Addr).add j = ⟨b,o'+j,none⟩ from by unfold Addr.add;split <;> simp_all];exact bv j u hu
section
variable {α:Type} [ax α] {w:World}
theorem N3 (hf:∀{w:World} {x:α} {cs:List Value} {F:List Nat},rd w x cs F->F = []):∀{xs:List α} {ds:List Value} {F:List Nat},jo w xs ds F->F = []
 | [],_,_,h=>h.2
 | x :: xs,_,_,⟨c1,c2,F1,F2,_,rfl,h1,h2⟩=>by rw [hf h1,N3 hf h2];rfl
theorem ai.of_flat {B:Nat} {e:TypeId} {v:Value} {xs:List α} {ds:List Value} {F:List Nat} (hf:∀{w:World} {x:α} {cs:List Value} {F:List Nat},Go.Proofs.YtdegaofigemegaaGreat.ax.rd w x cs F->F = []) (h0:w.ownsRow B e (ax.size α) v xs.length ds) (h:jo w xs ds F) :
 ∃A c G,v = .slice A xs.length c/\ai w B xs [.slice A xs.length c] G:=by
 obtain rfl:=N3 hf h;exact ai.oJ h0 ⟨h,List.nodup_nil,(λb hb=>by cases hb),(λb hb=>by cases hb)⟩ (λg _ hm=>by cases hm)
end
theorem eo.oJ {w:World} {B e size n:Nat} {v:Value} {ds:List Value} (h:w.ownsRow B e size v n ds):(v = .slice none 0 0/\n = 0)∨∃g cap N,v = .slice (some ⟨g,0,none⟩) n cap/\B<=g/\eo w g e N ds/\n<=cap/\cap<=maxLen:=by
 rcases h with ⟨hl,h | ⟨g,cap,cj,rfl,hb,hh,eW,hm,dC,ht⟩⟩
 ·exact .inl h
 ·refine .inr ⟨g,cap,cj.size,rfl,hb,⟨cj,hh,rfl,?_,λj u hu=>?_⟩,eW,hm⟩
  ·rw [hl,dC];exact Nat.mul_le_mul_right _ eW
  ·exact Dj
theorem eo.set {w:World} {g:Nat} {t:TypeId} {N:Nat} {ds:List Value} (h:eo w g t N ds) {i:Nat} (hi:i < ds.length) (u:Value):eo (w.setCell ⟨g,i,none⟩ u) g t N (ds.set i u):=by
 obtain ⟨cs,h,rfl,hl,hc⟩:=h;refine ⟨cs.setIfInBounds i u,?_,S',by simpa using hl,λj v hv=>?_⟩
 ·simp [World.setCell,Array.getElem?_modify,h]
 ·by_cases hj:i = j
  ·subst hj;rw [List.getElem?_set_self hi] at hv;cases hv
   rw [Array.getElem?_setIfInBounds_self_of_lt J]
  ·rw [List.getElem?_set_ne hj] at hv;rw [Array.getElem?_setIfInBounds_ne hj];exact hc j v hv
theorem eo.at_ {w:World} {g:Nat} {t:TypeId} {N:Nat} {ds:List Value} (h:eo w g t N ds) {j:Nat} {u:Value} (hj:ds[j]? = some u):w.cell? ⟨g,j,none⟩ = some u:=by have:=h.cells j u hj;simpa using this
theorem rQ {w w':World} {B e size n b:Nat} {v:Value} {xs:List Value} (h:w.ownsRow B e size v n xs) (hu:nN [b] w w') (hb:b < B):w'.ownsRow B e size v n xs :=
 h.kept (row:=some b) ⟨hu.os,hu.tape,hu.output,hu.size,λk hk bI=>hu.block k hk (by simpa using λe=>bI (by rw [e]))⟩ (by
   by_cases hv:v.ownBlock = some b
   ·have:=(h.lt b hv).1;omega
   ·exact .inr hv)
theorem nN.alloc {F:List Nat} {w w1:World} (h:nN F w w1) (o:Obj):nN F w (w1.alloc o):=h.trans (nN.lq F (ak (aj _) o))
structure pu (w wk:World) (cs zs os:List Value):Prop where
 box:oG wk w.heap.size cs
 rb:oG wk (w.heap.size+1) zs
 ob:oG wk (w.heap.size+1+1) os
 below:Below w.heap.size w wk
section
variable {w wk w':World} {cs zs os:List Value}
theorem pu.new (w:World) (cs zs os:List Value) (t t2 t3:TypeId):pu w (((w.alloc (.cells cs.toArray t)).alloc (.cells zs.toArray t2)).alloc (.cells os.toArray t3)) cs zs os :=
 ⟨((oG.new w cs t).ext (ak (aj _) _)).ext (ak (aj _) _),(by have:=oG.new (w.alloc (.cells cs.toArray t)) zs t2;rw [World.size_alloc] at this;exact this.ext (ak (aj _) _)),(by have:=oG.new ((w.alloc (.cells cs.toArray t)).alloc (.cells zs.toArray t2)) os t3;rw [World.size_alloc,World.size_alloc] at this;exact this),ak (ak (ak (aj _) _) _) _⟩
theorem pu.ext (h:pu w wk cs zs os) (hb:Below wk.heap.size wk w'):pu w w' cs zs os:=⟨h.box.ext hb,h.rb.ext hb,h.ob.ext hb,ah h.below hb⟩
theorem pu.put (h:pu w wk cs zs os) (i:Nat) (u:Value):pu w (wk.setCell ⟨w.heap.size+1+1,i,none⟩ u) cs zs (os.set i u):=⟨h.box.bL J i u,h.rb.bL J i u,h.ob.put i u,aC h.below bx u⟩
end
theorem AF {α:Type} [ax α] {w w':World} {x:α} {cs:List Value} {F:List Nat} (h:rd w x cs F) (hb:Below w.heap.size w w'):rd w' x cs F:=ax.frame h (λb dP=>hb.block b (ax.lt h b dP)) hb.size
def fe (w:World) (B:Nat) (e:TypeId) (size:Nat) (A:Option Addr) (c:Nat):Prop :=
 (A = none/\c = 0)∨∃g cj,A = some ⟨g,0,none⟩/\B<=g/\w.heap[g]? = some (.cells cj e (0,0))/\c<=maxLen/\cj.size = c * size
section
variable {w w':World} {B size c:Nat} {e:TypeId} {A:Option Addr}
theorem fe.oJ {B' n m:Nat} {xs:List Value} (h:w.ownsRow B' e size (.slice A n c) m xs) (hB:B<=B'):fe w B e size A c:=by
 rcases h.2 with ⟨h1,_⟩ | ⟨g,cap,cj,h1,h2,h3,h4,h5,h6,_⟩
 ·simp only [Value.slice.injEq] at h1;exact .inl ⟨h1.1,h1.2.2⟩
 ·simp only [Value.slice.injEq] at h1;obtain ⟨rfl,_,rfl⟩:=h1;exact .inr ⟨g,cj,rfl,Nat.le_trans hB h2,h3,h5,h6⟩
theorem fe.ext (h:fe w B e size A c) (hb:Below w.heap.size w w'):fe w' B e size A c:=by
 rcases h with h | ⟨g,cj,h1,h2,h3,h4⟩
 ·exact .inl h
 ·have hg:g < w.heap.size:=by
   exact DW
  exact .inr ⟨g,cj,h1,h2,(hb.block g hg).trans h3,h4⟩
theorem fe.drawn {b:Nat} (h:fe w B e size A c) (hu:nN [b] w w') (hb:b < B):fe w' B e size A c:=by
 rcases h with h | ⟨g,cj,h1,h2,h3,h4⟩
 ·exact .inl h
 ·have hg:g < w.heap.size:=by
   exact DW
  exact .inr ⟨g,cj,h1,h2,(hu.block g hg (by simp;omega)).trans h3,h4⟩
theorem fe.mono {B':Nat} (h:fe w B e size A c) (hB:B'<=B):fe w B' e size A c:=by
 rcases h with h | ⟨g,cj,h1,h2,h3⟩
 ·exact .inl h
 ·exact .inr ⟨g,cj,h1,Nat.le_trans hB h2,h3⟩
theorem fe.lt (h:fe w B e size A c):∀g,A = some ⟨g,0,none⟩->g < w.heap.size:=by
 rintro g rfl;rcases h with ⟨h,_⟩ | ⟨g,cj,h1,h2,h3,h4⟩
 ·cases h
 ·simp only [Option.some.injEq,Addr.mk.injEq,and_true] at h1;subst h1;exact DW
theorem fe.keep (h:fe w B e size A c) (hk:∀g,A = some ⟨g,0,none⟩->w'.heap[g]? = w.heap[g]?):fe w' B e size A c:=by
 rcases h with h | ⟨g,cj,h1,h2,h3,h4⟩
 ·exact .inl h
 ·exact .inr ⟨g,cj,h1,h2,(hk g h1).trans h3,h4⟩
theorem fe.bL {b:Nat} (h:fe w B e size A c) (hb:b < B) (j:Nat) (v:Value):fe (w.setCell ⟨b,j,none⟩ v) B e size A c:=by
 rcases h with h | ⟨g,cj,h1,h2,h3,h4⟩
 ·exact .inl h
 ·exact .inr ⟨g,cj,h1,h2,(Below.heap_setCell _ _ _ _ bx).trans h3,h4⟩
end
structure Roomy (α:Type) where
 l:List α
 t:TypeId
instance {α:Type} [ax α]:ax (Roomy α) where
 size:=1
 pos:=by omega
 rd w x cs F:=rd w x.l cs F/\((x.l = []/\cs = [.slice none 0 0])∨∃g c cj G,x.l≠[]/\cs = [.slice (some ⟨g,0,none⟩) x.l.length c]/\F = g :: G/\w.heap[g]? = some (.cells cj x.t (0,0))/\cj.size = c * ax.size α)
 len h:=ax.len h.1
 one h:=ax.one h.1
 lt h:=ax.lt h.1
 frame h hk hz:=⟨ax.frame h.1 hk hz,by
  rcases h.2 with h2 | ⟨g,c,cj,G,h0,h1,h2,h3,h4⟩
  ·exact .inl h2
  ·exact .inr ⟨g,c,cj,G,h0,h1,h2,(hk g (by rw [h2];exact List.mem_cons_self ..)).trans h3,h4⟩⟩
section
variable {α:Type} [ax α] {w:World} {B:Nat} {xs:List α} {ds:List Value} {F:List Nat}
theorem ai.list {cs:List Value} {t:TypeId} (h:ai w B (Roomy.mk xs t) cs F):ai w B xs cs F:=⟨h.rd.1,h.nodup,h.base,h.plain⟩
theorem ai.RT {e:TypeId} {v:Value} (h0:w.ownsRow B e (ax.size α) v xs.length ds) (h:aY w B xs ds F) (bI:∀g,v.ownBlock = some g->g∉F) (hv:xs.length = 0->v = .slice none 0 0):∃A c G,v = .slice A xs.length c/\ai w B (Roomy.mk xs e) [.slice A xs.length c] G:=by
 obtain ⟨A,c,G,hA,hO⟩:=ai.oJ h0 h bI;refine ⟨A,c,G,hA,⟨⟨hO.rd,?_⟩,hO.nodup,hO.base,hO.plain⟩⟩;by_cases hx:xs = []
 ·left;have:=hv (by rw [hx];rfl);rw [this] at hA;exact ⟨hx,by rw [hA]⟩
 ·right;rcases h0.2 with ⟨_,hn⟩ | ⟨g,cap,cj,h1,h2,h3,h4,h5,h6,h7⟩
  ·exact absurd (List.eq_nil_of_length_eq_zero hn) hx
  ·rw [hA] at h1;simp only [Value.slice.injEq,true_and] at h1;obtain ⟨rfl,rfl⟩:=h1;obtain ⟨A',c',G',ds',e0,_,_,_,h8⟩:=hO.rd;simp only [List.cons.injEq,Value.slice.injEq,and_true,true_and] at e0;obtain ⟨rfl,rfl⟩:=e0;rcases h8 with ⟨h9,_⟩ | ⟨b,o,hb,rfl,_,_⟩
   ·exact absurd h9 hx
   ·simp only [Option.some.injEq,Addr.mk.injEq,and_true] at hb;obtain ⟨rfl,rfl⟩:=hb;exact ⟨g,c,cj,G',hx,rfl,rfl,h3,h6⟩
theorem ai.lm {t:TypeId} {A:Option Addr} {c:Nat} (h:ai w B (Roomy.mk xs t) [.slice A xs.length c] F):∃ds G,w.ownsRow B t (ax.size α) (.slice A xs.length c) xs.length ds/\aY w B xs ds G/\(∀g,(Value.slice A xs.length c).ownBlock = some g->g∉G)/\(∀b∈G,b∈F):=by
 obtain ⟨⟨A',c',G,ds,e0,hl,hm,hc,h0⟩,h2⟩:=h.rd;simp only [List.cons.injEq,Value.slice.injEq,and_true,true_and] at e0;obtain ⟨rfl,rfl⟩:=e0;rcases h2 with ⟨hx,he⟩ | ⟨g,c',cj,G',hx0,he,hF,hg,hs⟩
 ·simp only at hx;subst hx;simp only [List.length_nil,List.cons.injEq,Value.slice.injEq,and_true,true_and] at he;obtain ⟨rfl,rfl⟩:=he;exact ⟨[],[],⟨S',.inl ⟨rfl,rfl⟩⟩,aY.nil w B,(λg hg=>by cases hg),(λb hb=>by cases hb)⟩
 ·simp only [List.cons.injEq,Value.slice.injEq,and_true,true_and] at he;obtain ⟨rfl,rfl⟩:=he;rcases h0 with ⟨hx,qp⟩ | ⟨b,o,hb,mI,ap,bv⟩
  ·rw [qp] at hF;cases hF
  ·simp only [Option.some.injEq,Addr.mk.injEq,and_true] at hb;obtain ⟨rfl,rfl⟩:=hb;subst mI;have hn:=List.nodup_cons.1 h.nodup;have cM:ds.length = xs.length * ax.size α:=hc.len;refine ⟨ds,G,⟨cM,.inr ⟨g,c,cj,rfl,h.base g (List.mem_cons_self ..),hg,hl,hm,hs,?_⟩⟩,⟨hc,hn.2,λb hb=>h.base b (List.mem_cons_of_mem _ hb),λb hb=>h.plain b (List.mem_cons_of_mem _ hb)⟩,(λq hq=>by simp only [Value.ownBlock,Option.some.injEq] at hq;subst hq;exact hn.1),λb hb=>List.mem_cons_of_mem _ hb⟩;apply List.ext_getElem?;intro j;rw [List.getElem?_take];by_cases hj:j < xs.length * ax.size α
   ·rw [if_pos hj];have hd:ds[j]? = some ds[j]:=List.getElem?_eq_getElem J;have:=bv j _ hd;rw [Nat.zero_add,cell_of_row w g j cj t (0,0) hg] at this;rw [hd,<- this];simp
   ·rw [if_neg hj,List.getElem?_eq_none J]
theorem ai.room {t:TypeId} {v:Value} {G:List Nat} (h:ai w B xs [v] F) (hr:Go.Proofs.YtdegaofigemegaaGreat.ax.rd w (Roomy.mk xs t) [v] G):ai w B (Roomy.mk xs t) [v] F:=by
 refine ⟨⟨h.rd,?_⟩,h.nodup,h.base,h.plain⟩;rcases hr.2 with h1 | ⟨g,c,cj,G',h0,h1,h2,h3,h4⟩
 ·exact .inl h1
 ·refine .inr ⟨g,c,cj,?_⟩;obtain ⟨A',c',G2,ds,e0,hl,hm,hc,h5⟩:=h.rd;rcases h5 with ⟨hx,_⟩ | ⟨b,o,hb,hF,_,_⟩
  ·exact absurd hx h0
  ·subst hb;rw [e0] at h1;simp only [List.cons.injEq,Value.slice.injEq,Option.some.injEq,Addr.mk.injEq,and_true,true_and] at h1;refine ⟨G2,h0,?_,?_,h3,h4⟩
   ·rw [e0,h1.1.1,h1.1.2,h1.2]
   ·rw [hF,h1.1.1]
end
def Bl (x:aU) (w:World) (cs:List Value):Prop:=∃Ah ch Ap cp Gh Gp rest,cs = .slice Ah x.O.length ch :: .slice Ap x.M.length cp :: rest/\Go.Proofs.YtdegaofigemegaaGreat.ax.rd w (Roomy.mk x.O 38) [.slice Ah x.O.length ch] Gh/\Go.Proofs.YtdegaofigemegaaGreat.ax.rd w (Roomy.mk x.M 47) [.slice Ap x.M.length cp] Gp
theorem apU:(Tryz.prog.info? 38).map (λi=>(i.zero,i.size,i.bytes)) = some (some ((.agg #[.string ⟨#[]⟩,.slice none 0 0,.int .i64 0,.int .i64 0,.int .i64 0,.slice none 0 0])),6,88):=by kernel_rfl
theorem afu (xs:List ba) (A:Option Addr) (c B i j:Nat) (F:List Nat) (w:World) (h:ai w B xs [.slice A xs.length c] F) (hi:i < xs.length) (hl:xs.length<=1048576) (hj:Hid (i+1 = j)) :
 Calls Tryz.prog 22 #[.slice A xs.length c,.int .i64 i,.int .i64 j] w λe w'=>∃F',e = .returned (.slice A (xs.length - 1) c)/\ai w' B (xs.eraseIdx i) [.slice A (xs.length - 1) c] F'/\(∀y∈F',y∈F)/\nN F w w':=by
 obtain ⟨b,o,ds,rfl,o9,hbs,eS,hmx,cM,h1,bv,eH,br⟩:=h.del hi;have hS:ax.size ba = 6:=rfl;rw [hS] at cM br;clear hS h;have HF:=I br;have HJ:=hj.out;clear br;obtain ⟨i0,gw,bX,cI,ca⟩:=info_parts apU;have hjn:j<=xs.length:=by omega
 generalize hn:xs.length = n at *;have HN:=I hn;clear hn;obtain ⟨news,dh⟩:∃news,news = ds.drop (j * 6):=⟨_,rfl⟩;have bE:news.length = (n - j) * 6:=by rw [dh,List.length_drop,cM,Nat.sub_mul]
 have kn:∀t,t < (n - j) * 6->news[t]? = ds[j * 6+t]?:=λt ht=>by rw [dh,List.getElem?_drop]
 obtain ⟨A0,hA,cC⟩:∃A0:Addr,(if c = j then some (⟨b,o,none⟩:Addr) else some ⟨b,o+j * 6,none⟩) = some A0/\Hid (∀t u,news[t]? = some u->w.drew.cell? (A0.add t) = some u):=by
  by_cases hc:c = j
  ·exact NA
  ·refine ⟨⟨b,o+j * 6,none⟩,by simp [hc],λt u hu=>?_⟩;have ht:t < (n - j) * 6:=by
    have:=(List.getElem?_eq_some_iff.1 hu).1;rwa [bE] at this
   rw [kn t ht] at hu;rw [Addr.add_lit,show o+j * 6+t = o+(j * 6+t) by omega];exact bv _ u hu
 have lU:∀q,q < n * 6->(w.cell? ⟨b,o+q,none⟩).isSome = true:=λq hq=>by rw [bv q ds[q] (List.getElem?_eq_getElem J)];rfl
 have s1:Hid (news.length = (n - j) * 6):=bE;have s2:Hid (∀u∈news,u.oneCell' = true):=λu hu=>h1 u (by rw [dh] at hu;exact List.mem_of_mem_drop hu);have s3:Hid (∀t,t < news.length->(w.drew.cell? ⟨b,o+i * 6+t,none⟩).isSome = true/\w.drew.frozen? ⟨b,o+i * 6+t,none⟩ = false):=λt ht=>by
  rw [bE] at ht;rw [Nat.add_assoc];exact ⟨lU _ J,eH.frozen _⟩
 obtain ⟨W1,hW1⟩:∃W1,W1 = w.drew.setCells b (o+i * 6) news:=⟨_,rfl⟩;have Pr:Plain W1 b:=by rw [hW1];exact EK b _ _ _ eH
 have Ps:∀q,q < n * 6->(W1.cell? ⟨b,o+q,none⟩).isSome = true:=λq hq=>by rw [hW1];exact World.isSome_setCells b _ _ _ _ (lU q hq)
 have cR:∀ty,(Builtin.clear_ #[24] ty #[.slice (some ⟨b,o+(i+(n - j)) * 6,none⟩) (n - (i+(n - j))) (c - (i+(n - j)))]).run Tryz.prog W1 = .ok (.tuple #[]) (W1.setCells b (o+(i+(n - j)) * 6) ((.agg #[.string ⟨#[]⟩,.slice none 0 0,.int .i64 0,.int .i64 0,.int .i64 0,.slice none 0 0]):Value).cells.toList):=λty=>by
  rw [show n - (i+(n - j)) = 1 by omega];refine Zp W1 _ 38 ty (.agg #[.string ⟨#[]⟩,.slice none 0 0,.int .i64 0,.int .i64 0,.int .i64 0,.slice none 0 0]) Tryz.underlying24 (λw=>by simp [zeroValue,typeInfo,gw,bX]) (by decide) b _ _ (λq hq=>?_) (λq hq=>Pr.frozen _);rw [Nat.add_assoc];refine Ps _ ?_;replace hq:q < 6:=hq;omega
 have hW:Hid (W1 = w.drew.setCells b (o+i * 6) news):=hW1;have xw:Hid (news = ds.drop (j * 6)):=dh;have hic:i<=c:=by omega
 have pv:j<=c:=by omega
 have HC:=I bv;have AW:=I cM;clear hW1 kn dh bE lU Ps bv cM h1 ca;go_enter Tryz.func22,Tryz.ntmps22;go_wp2_with fail
 go_region_law (refine step_append_room rfl (.tmp 22) (.tmp 25) 24 rfl 38 i0 6 Tryz.underlying24 gw cI b o i c tw A0 (n - j) (c - j) news tw s1.out cC.out s2.out J s3.out ?_;rw [<- hW.out])
 go_wp2;go_ret
 have bv:=HC.out;have cM:=AW.out;have WW:news.length = (n - j) * 6:=s1.out;have mv:i * 6+(n - j) * 6 = (i+(n - j)) * 6:=(Nat.add_mul ..).symm
 obtain ⟨F',hO,hs⟩:=HF.out (W1.setCells b (o+(i+(n - j)) * 6) ([.string ⟨#[]⟩,.slice none 0 0,.int .i64 0,.int .i64 0,.int .i64 0,.slice none 0 0]:List Value)) (λk hk=>by rw [vV b hk,hW.out,vV b hk];rfl) (by rw [bk,hW.out,bk];rfl) (EK b _ _ _ Pr) (by
  intro q u hq;rw [HJ,<- xw.out] at hq;have sr:=(List.getElem?_eq_some_iff.1 hq).1;rw [List.length_append,List.length_take,cM,WW,Nat.min_eq_left (by have:i * 6<=n * 6:=Nat.mul_le_mul_right _ J;omega)] at sr;rw [World.cell?_setCells_out b _ _ _ _ (λ_ _=>Or.inl bx),hW.out];by_cases TX:q < i * 6
  ·exact Ml
  ·have zb:(ds.take (i * 6)).length = i * 6:=(by rw [List.length_take,cM];omega);rw [List.getElem?_append_right J,zb] at hq;obtain ⟨pB,hq3⟩:=List.getElem?_eq_some_iff.1 hq;have vv:=World.cell?_setCells_in b news (o+i * 6) w.drew (λt ht=>(s3.out t ht).1) (q - i * 6) pB;rw [show o+i * 6+(q - i * 6) = o+q by omega,hq3] at vv
   exact vv)
 refine ⟨F',?_,hO,hs,?_⟩
 ·rw [show n - 1 = i+(n - j) by omega];rfl
 ·have e1:=F8 b ([.string ⟨#[]⟩,.slice none 0 0,.int .i64 0,.int .i64 0,.int .i64 0,.slice none 0 0]:List Value) (o+(i+(n - j)) * 6) W1;have e2:=F8 b news (o+i * 6) w.drew;exact L6
theorem alY:(Tryz.prog.info? 47).map (λi=>(i.zero,i.size,i.bytes)) = some (some ((.agg #[.string ⟨#[]⟩,.slice none 0 0,.int .i64 0,.int .i64 0,.int .i64 0,.slice none 0 0,.slice none 0 0,.string ⟨#[]⟩,.int .i64 0])),9,136):=by kernel_rfl
theorem acQ (xs:List ag) (A:Option Addr) (c B i j:Nat) (F:List Nat) (w:World) (h:ai w B xs [.slice A xs.length c] F) (hi:i < xs.length) (hl:xs.length<=1048576) (hj:Hid (i+1 = j)) :
 Calls Tryz.prog 20 #[.slice A xs.length c,.int .i64 i,.int .i64 j] w λe w'=>∃F',e = .returned (.slice A (xs.length - 1) c)/\ai w' B (xs.eraseIdx i) [.slice A (xs.length - 1) c] F'/\(∀y∈F',y∈F)/\nN F w w':=by
 obtain ⟨b,o,ds,rfl,o9,hbs,eS,hmx,cM,h1,bv,eH,br⟩:=h.del hi;have hS:ax.size ag = 9:=rfl;rw [hS] at cM br;clear hS h;have HF:=I br;have HJ:=hj.out;clear br;obtain ⟨i0,gw,bX,cI,ca⟩:=info_parts alY;have hjn:j<=xs.length:=by omega
 generalize hn:xs.length = n at *;have HN:=I hn;clear hn;obtain ⟨news,dh⟩:∃news,news = ds.drop (j * 9):=⟨_,rfl⟩;have bE:news.length = (n - j) * 9:=by rw [dh,List.length_drop,cM,Nat.sub_mul]
 have kn:∀t,t < (n - j) * 9->news[t]? = ds[j * 9+t]?:=λt ht=>by rw [dh,List.getElem?_drop]
 obtain ⟨A0,hA,cC⟩:∃A0:Addr,(if c = j then some (⟨b,o,none⟩:Addr) else some ⟨b,o+j * 9,none⟩) = some A0/\Hid (∀t u,news[t]? = some u->w.drew.cell? (A0.add t) = some u):=by
  by_cases hc:c = j
  ·exact NA
  ·refine ⟨⟨b,o+j * 9,none⟩,by simp [hc],λt u hu=>?_⟩;have ht:t < (n - j) * 9:=by
    have:=(List.getElem?_eq_some_iff.1 hu).1;rwa [bE] at this
   rw [kn t ht] at hu;rw [Addr.add_lit,show o+j * 9+t = o+(j * 9+t) by omega];exact bv _ u hu
 have lU:∀q,q < n * 9->(w.cell? ⟨b,o+q,none⟩).isSome = true:=λq hq=>by rw [bv q ds[q] (List.getElem?_eq_getElem J)];rfl
 have s1:Hid (news.length = (n - j) * 9):=bE;have s2:Hid (∀u∈news,u.oneCell' = true):=λu hu=>h1 u (by rw [dh] at hu;exact List.mem_of_mem_drop hu);have s3:Hid (∀t,t < news.length->(w.drew.cell? ⟨b,o+i * 9+t,none⟩).isSome = true/\w.drew.frozen? ⟨b,o+i * 9+t,none⟩ = false):=λt ht=>by
  rw [bE] at ht;rw [Nat.add_assoc];exact ⟨lU _ J,eH.frozen _⟩
 obtain ⟨W1,hW1⟩:∃W1,W1 = w.drew.setCells b (o+i * 9) news:=⟨_,rfl⟩;have Pr:Plain W1 b:=by rw [hW1];exact EK b _ _ _ eH
 have Ps:∀q,q < n * 9->(W1.cell? ⟨b,o+q,none⟩).isSome = true:=λq hq=>by rw [hW1];exact World.isSome_setCells b _ _ _ _ (lU q hq)
 have cR:∀ty,(Builtin.clear_ #[25] ty #[.slice (some ⟨b,o+(i+(n - j)) * 9,none⟩) (n - (i+(n - j))) (c - (i+(n - j)))]).run Tryz.prog W1 = .ok (.tuple #[]) (W1.setCells b (o+(i+(n - j)) * 9) ((.agg #[.string ⟨#[]⟩,.slice none 0 0,.int .i64 0,.int .i64 0,.int .i64 0,.slice none 0 0,.slice none 0 0,.string ⟨#[]⟩,.int .i64 0]):Value).cells.toList):=λty=>by
  rw [show n - (i+(n - j)) = 1 by omega];refine Zp W1 _ 47 ty (.agg #[.string ⟨#[]⟩,.slice none 0 0,.int .i64 0,.int .i64 0,.int .i64 0,.slice none 0 0,.slice none 0 0,.string ⟨#[]⟩,.int .i64 0]) Tryz.underlying25 (λw=>by simp [zeroValue,typeInfo,gw,bX]) (by decide) b _ _ (λq hq=>?_) (λq hq=>Pr.frozen _);rw [Nat.add_assoc];refine Ps _ ?_;replace hq:q < 9:=hq;omega
 have hW:Hid (W1 = w.drew.setCells b (o+i * 9) news):=hW1;have xw:Hid (news = ds.drop (j * 9)):=dh;have hic:i<=c:=by omega
 have pv:j<=c:=by omega
 have HC:=I bv;have AW:=I cM;clear hW1 kn dh bE lU Ps bv cM h1 ca;go_enter Tryz.func20,Tryz.ntmps20;go_wp2_with fail
 go_region_law (refine step_append_room rfl (.tmp 22) (.tmp 25) 25 rfl 47 i0 9 Tryz.underlying25 gw cI b o i c tw A0 (n - j) (c - j) news tw s1.out cC.out s2.out J s3.out ?_;rw [<- hW.out])
 go_wp2;go_ret
 have bv:=HC.out;have cM:=AW.out;have WW:news.length = (n - j) * 9:=s1.out;have mv:i * 9+(n - j) * 9 = (i+(n - j)) * 9:=(Nat.add_mul ..).symm
 obtain ⟨F',hO,hs⟩:=HF.out (W1.setCells b (o+(i+(n - j)) * 9) ([.string ⟨#[]⟩,.slice none 0 0,.int .i64 0,.int .i64 0,.int .i64 0,.slice none 0 0,.slice none 0 0,.string ⟨#[]⟩,.int .i64 0]:List Value)) (λk hk=>by rw [vV b hk,hW.out,vV b hk];rfl) (by rw [bk,hW.out,bk];rfl) (EK b _ _ _ Pr) (by
  intro q u hq;rw [HJ,<- xw.out] at hq;have sr:=(List.getElem?_eq_some_iff.1 hq).1;rw [List.length_append,List.length_take,cM,WW,Nat.min_eq_left (by have:i * 9<=n * 9:=Nat.mul_le_mul_right _ J;omega)] at sr;rw [World.cell?_setCells_out b _ _ _ _ (λ_ _=>Or.inl bx),hW.out];by_cases TX:q < i * 9
  ·exact Ml
  ·have zb:(ds.take (i * 9)).length = i * 9:=(by rw [List.length_take,cM];omega);rw [List.getElem?_append_right J,zb] at hq;obtain ⟨pB,hq3⟩:=List.getElem?_eq_some_iff.1 hq;have vv:=World.cell?_setCells_in b news (o+i * 9) w.drew (λt ht=>(s3.out t ht).1) (q - i * 9) pB;rw [show o+i * 9+(q - i * 9) = o+q by omega,hq3] at vv
   exact vv)
 refine ⟨F',?_,hO,hs,?_⟩
 ·rw [show n - 1 = i+(n - j) by omega];rfl
 ·have e1:=F8 b ([.string ⟨#[]⟩,.slice none 0 0,.int .i64 0,.int .i64 0,.int .i64 0,.slice none 0 0,.slice none 0 0,.string ⟨#[]⟩,.int .i64 0]:List Value) (o+(i+(n - j)) * 9) W1;have e2:=F8 b news (o+i * 9) w.drew;exact L6
theorem anQ:(Tryz.prog.info? 113).map (λi=>(i.zero,i.size,i.bytes)) = some (some ((.agg #[.string ⟨#[]⟩,.string ⟨#[]⟩])),2,32):=by kernel_rfl
theorem Vv:DL Tryz.prog 31 113 ((.agg #[.string ⟨#[]⟩,.string ⟨#[]⟩])) 2 32:=⟨Tryz.underlying31,anQ,rfl,J⟩
theorem aei (xs:List ao) (A:Option Addr) (c:Nat) (F:List Nat) (w:World) (h:Sl w xs A c F) (hl:(xs.length:Int)<=1048576) :
 Calls Tryz.prog 69 #[.slice A xs.length c] w λe w'=>∃A' c' ds G,e = .returned (.slice A' xs.length c')/\w'.ownsRow w.heap.size 113 2 (.slice A' xs.length c') xs.length ds/\jo w' xs ds G/\(∀b∈G,b∈F)/\Below w.heap.size w w':=by
 cases A with
 | none =>
   obtain rfl:xs = []:=by exact t6
   have zk:∀(w:World) (a:Option Addr) (n c n' c':Nat),(binOp .eql 31 (.slice a n c) (.slice none n' c')).run Tryz.prog w = .ok (.bool a.isNone) w:=λw a n c n' c'=>Lib.run_eql_slice_nil w _ _ a n c n' c' Tryz.underlying31;go_enter Tryz.func69,Tryz.ntmps69;exact ub
 | some ad =>
   have H:=I h;clear h;have zk:∀(w:World) (a:Option Addr) (n c n' c':Nat),(binOp .eql 31 (.slice a n c) (.slice none n' c')).run Tryz.prog w = .ok (.bool a.isNone) w:=λw a n c n' c'=>Lib.run_eql_slice_nil w _ _ a n c n' c' Tryz.underlying31;go_enter Tryz.func69,Tryz.ntmps69
   go_wp2_with (
    at_builtin
    go_must (refine rW Vv J' J' _ _ J' _ w.heap.size _ 0 [] (World.ownsRow_made (size:=2) w #[] 0 (Nat.le_refl _) (Nat.zero_le _) S') J' xs (some ad) c F (H.out.ext (ak (aj _) _)) J' J J S' ?_)
    intro v2 w2 ds G cH bi aw hg cF;go_must (obtain ⟨A2,c2,eO⟩:=mY aw)
    go_must (subst eO))
   simp only [Nat.zero_add,List.nil_append] at aw;go_ret
   refine ⟨A2,c2,ds,G,S',aw,cH.frame (λb hb=>hg.block b (cH.lt b hb) (λe=>?_)) hg.size,bi,lS (World.ownsRow_made (e:=113) (size:=2) w #[] 0 (Nat.le_refl _) (Nat.zero_le _) S') hg (ak (aj _) _) S'⟩;exact uk
theorem Vw {w:World} {x:ao} {cs:List Value} {F:List Nat} (h:rd w x cs F):F = []:=by obtain ⟨_,hF,_⟩:=vO h;exact hF
theorem Xo (xs:List ao) (A:Option Addr) (c:Nat) (F:List Nat) (w:World) (h:Sl w xs A c F) (hl:(xs.length:Int)<=1048576) :
 Calls Tryz.prog 69 #[.slice A xs.length c] w λe w'=>∃A' c' F',e = .returned (.slice A' xs.length c')/\ai w' w.heap.size xs [.slice A' xs.length c'] F'/\Below w.heap.size w w':=by
 refine (aei xs A c F w h hl).mono ?_;rintro e w' ⟨A',c',ds,G,rfl,aw,cH,_,hb⟩;obtain ⟨A2,c2,G2,hv,hO⟩:=ai.of_flat Vw aw cH;simp only [Value.slice.injEq,true_and] at hv;obtain ⟨rfl,rfl⟩:=hv;exact ⟨A',c',G2,rfl,hO,hb⟩
theorem anR:(Tryz.prog.info? 116).map (λi=>(i.zero,i.size,i.bytes)) = some (some ((.agg #[.string ⟨#[]⟩,.string ⟨#[]⟩,.int .i64 0])),3,40):=by kernel_rfl
theorem alP:DL Tryz.prog 36 116 ((.agg #[.string ⟨#[]⟩,.string ⟨#[]⟩,.int .i64 0])) 3 40:=⟨Tryz.underlying36,anR,rfl,J⟩
theorem aej (xs:List iU) (A:Option Addr) (c:Nat) (F:List Nat) (w:World) (h:Sl w xs A c F) (hl:(xs.length:Int)<=1048576) :
 Calls Tryz.prog 70 #[.slice A xs.length c] w λe w'=>∃A' c' ds G,e = .returned (.slice A' xs.length c')/\w'.ownsRow w.heap.size 116 3 (.slice A' xs.length c') xs.length ds/\jo w' xs ds G/\(∀b∈G,b∈F)/\Below w.heap.size w w':=by
 cases A with
 | none =>
   obtain rfl:xs = []:=by exact t6
   have zk:∀(w:World) (a:Option Addr) (n c n' c':Nat),(binOp .eql 36 (.slice a n c) (.slice none n' c')).run Tryz.prog w = .ok (.bool a.isNone) w:=λw a n c n' c'=>Lib.run_eql_slice_nil w _ _ a n c n' c' Tryz.underlying36;go_enter Tryz.func70,Tryz.ntmps70;exact ub
 | some ad =>
   have H:=I h;clear h;have zk:∀(w:World) (a:Option Addr) (n c n' c':Nat),(binOp .eql 36 (.slice a n c) (.slice none n' c')).run Tryz.prog w = .ok (.bool a.isNone) w:=λw a n c n' c'=>Lib.run_eql_slice_nil w _ _ a n c n' c' Tryz.underlying36;go_enter Tryz.func70,Tryz.ntmps70
   go_wp2_with (
    at_builtin
    go_must (refine rW alP J' J' _ _ J' _ w.heap.size _ 0 [] (World.ownsRow_made (size:=3) w #[] 0 (Nat.le_refl _) (Nat.zero_le _) S') J' xs (some ad) c F (H.out.ext (ak (aj _) _)) J' J J S' ?_)
    intro v2 w2 ds G cH bi aw hg cF;go_must (obtain ⟨A2,c2,eO⟩:=mY aw)
    go_must (subst eO))
   simp only [Nat.zero_add,List.nil_append] at aw;go_ret
   refine ⟨A2,c2,ds,G,S',aw,cH.frame (λb hb=>hg.block b (cH.lt b hb) (λe=>?_)) hg.size,bi,lS (World.ownsRow_made (e:=116) (size:=3) w #[] 0 (Nat.le_refl _) (Nat.zero_le _) S') hg (ak (aj _) _) S'⟩;exact uk
theorem aiH {w:World} {x:iU} {cs:List Value} {F:List Nat} (h:rd w x cs F):F = []:=by obtain ⟨_,hF,_⟩:=oK h;exact hF
theorem R6 (xs:List iU) (A:Option Addr) (c:Nat) (F:List Nat) (w:World) (h:Sl w xs A c F) (hl:(xs.length:Int)<=1048576) :
 Calls Tryz.prog 70 #[.slice A xs.length c] w λe w'=>∃A' c' F',e = .returned (.slice A' xs.length c')/\ai w' w.heap.size xs [.slice A' xs.length c'] F'/\Below w.heap.size w w':=by
 refine (aej xs A c F w h hl).mono ?_;rintro e w' ⟨A',c',ds,G,rfl,aw,cH,_,hb⟩;obtain ⟨A2,c2,G2,hv,hO⟩:=ai.of_flat aiH aw cH;simp only [Value.slice.injEq,true_and] at hv;obtain ⟨rfl,rfl⟩:=hv;exact ⟨A',c',G2,rfl,hO,hb⟩
theorem afp:(Tryz.prog.info? 120).map (λi=>(i.zero,i.size,i.bytes)) = some (some ((.agg #[.string ⟨#[]⟩,.bool false,.string ⟨#[]⟩,.int .i64 0])),4,48):=by kernel_rfl
theorem abo:DL Tryz.prog 33 120 ((.agg #[.string ⟨#[]⟩,.bool false,.string ⟨#[]⟩,.int .i64 0])) 4 48:=⟨Tryz.underlying33,afp,rfl,J⟩
theorem Y5 (xs:List bH) (A:Option Addr) (c:Nat) (F:List Nat) (w:World) (h:Sl w xs A c F) (hl:(xs.length:Int)<=1048576) :
 Calls Tryz.prog 72 #[.slice A xs.length c] w λe w'=>∃A' c' ds G,e = .returned (.slice A' xs.length c')/\w'.ownsRow w.heap.size 120 4 (.slice A' xs.length c') xs.length ds/\jo w' xs ds G/\(∀b∈G,b∈F)/\Below w.heap.size w w':=by
 cases A with
 | none =>
   obtain rfl:xs = []:=by exact t6
   have zk:∀(w:World) (a:Option Addr) (n c n' c':Nat),(binOp .eql 33 (.slice a n c) (.slice none n' c')).run Tryz.prog w = .ok (.bool a.isNone) w:=λw a n c n' c'=>Lib.run_eql_slice_nil w _ _ a n c n' c' Tryz.underlying33;go_enter Tryz.func72,Tryz.ntmps72;exact ub
 | some ad =>
   have H:=I h;clear h;have zk:∀(w:World) (a:Option Addr) (n c n' c':Nat),(binOp .eql 33 (.slice a n c) (.slice none n' c')).run Tryz.prog w = .ok (.bool a.isNone) w:=λw a n c n' c'=>Lib.run_eql_slice_nil w _ _ a n c n' c' Tryz.underlying33;go_enter Tryz.func72,Tryz.ntmps72
   go_wp2_with (
    at_builtin
    go_must (refine rW abo J' J' _ _ J' _ w.heap.size _ 0 [] (World.ownsRow_made (size:=4) w #[] 0 (Nat.le_refl _) (Nat.zero_le _) S') J' xs (some ad) c F (H.out.ext (ak (aj _) _)) J' J J S' ?_)
    intro v2 w2 ds G cH bi aw hg cF;go_must (obtain ⟨A2,c2,eO⟩:=mY aw)
    go_must (subst eO))
   simp only [Nat.zero_add,List.nil_append] at aw;go_ret
   refine ⟨A2,c2,ds,G,S',aw,cH.frame (λb hb=>hg.block b (cH.lt b hb) (λe=>?_)) hg.size,bi,lS (World.ownsRow_made (e:=120) (size:=4) w #[] 0 (Nat.le_refl _) (Nat.zero_le _) S') hg (ak (aj _) _) S'⟩;exact uk
theorem Zk {w:World} {x:bH} {cs:List Value} {F:List Nat} (h:rd w x cs F):F = []:=by obtain ⟨_,hF,_⟩:=jv h;exact hF
theorem R7 (xs:List bH) (A:Option Addr) (c:Nat) (F:List Nat) (w:World) (h:Sl w xs A c F) (hl:(xs.length:Int)<=1048576) :
 Calls Tryz.prog 72 #[.slice A xs.length c] w λe w'=>∃A' c' F',e = .returned (.slice A' xs.length c')/\ai w' w.heap.size xs [.slice A' xs.length c'] F'/\Below w.heap.size w w':=by
 refine (Y5 xs A c F w h hl).mono ?_;rintro e w' ⟨A',c',ds,G,rfl,aw,cH,_,hb⟩;obtain ⟨A2,c2,G2,hv,hO⟩:=ai.of_flat Zk aw cH;simp only [Value.slice.injEq,true_and] at hv;obtain ⟨rfl,rfl⟩:=hv;exact ⟨A',c',G2,rfl,hO,hb⟩
theorem Xj:(Tryz.prog.info? 9).map (λi=>(i.zero,i.size,i.bytes)) = some (some (.string ⟨#[]⟩),1,16):=by kernel_rfl
theorem Ud:DL Tryz.prog 101 9 (.string ⟨#[]⟩) 1 16:=⟨Tryz.underlying101,Xj,rfl,J⟩
theorem LP (xs:List ByteArray) (A:Option Addr) (c:Nat) (F:List Nat) (w:World) (h:Sl w xs A c F) (hl:(xs.length:Int)<=1048576) :
 Calls Tryz.prog 114 #[.slice A xs.length c] w λe w'=>∃A' c' ds G,e = .returned (.slice A' xs.length c')/\w'.ownsRow w.heap.size 9 1 (.slice A' xs.length c') xs.length ds/\jo w' xs ds G/\(∀b∈G,b∈F)/\Below w.heap.size w w':=by
 cases A with
 | none =>
   obtain rfl:xs = []:=by exact t6
   have zk:∀(w:World) (a:Option Addr) (n c n' c':Nat),(binOp .eql 101 (.slice a n c) (.slice none n' c')).run Tryz.prog w = .ok (.bool a.isNone) w:=λw a n c n' c'=>Lib.run_eql_slice_nil w _ _ a n c n' c' Tryz.underlying101;go_enter Tryz.func114,Tryz.ntmps114;exact ub
 | some ad =>
   have H:=I h;clear h;have zk:∀(w:World) (a:Option Addr) (n c n' c':Nat),(binOp .eql 101 (.slice a n c) (.slice none n' c')).run Tryz.prog w = .ok (.bool a.isNone) w:=λw a n c n' c'=>Lib.run_eql_slice_nil w _ _ a n c n' c' Tryz.underlying101;go_enter Tryz.func114,Tryz.ntmps114
   go_wp2_with (
    at_builtin
    go_must (refine rW Ud J' J' _ _ J' _ w.heap.size _ 0 [] (World.ownsRow_made (size:=1) w #[] 0 (Nat.le_refl _) (Nat.zero_le _) S') J' xs (some ad) c F (H.out.ext (ak (aj _) _)) J' J J S' ?_)
    intro v2 w2 ds G cH bi aw hg cF;go_must (obtain ⟨A2,c2,eO⟩:=mY aw)
    go_must (subst eO))
   simp only [Nat.zero_add,List.nil_append] at aw;go_ret
   refine ⟨A2,c2,ds,G,S',aw,cH.frame (λb hb=>hg.block b (cH.lt b hb) (λe=>?_)) hg.size,bi,lS (World.ownsRow_made (e:=9) (size:=1) w #[] 0 (Nat.le_refl _) (Nat.zero_le _) S') hg (ak (aj _) _) S'⟩;exact uk
theorem P8 {w:World} {x:ByteArray} {cs:List Value} {F:List Nat} (h:rd w x cs F):F = []:=h.2.1
theorem Ox (xs:List ByteArray) (A:Option Addr) (c:Nat) (F:List Nat) (w:World) (h:Sl w xs A c F) (hl:(xs.length:Int)<=1048576) :
 Calls Tryz.prog 114 #[.slice A xs.length c] w λe w'=>∃A' c' F',e = .returned (.slice A' xs.length c')/\ai w' w.heap.size xs [.slice A' xs.length c'] F'/\Below w.heap.size w w':=by
 refine (LP xs A c F w h hl).mono ?_;rintro e w' ⟨A',c',ds,G,rfl,aw,cH,_,hb⟩;obtain ⟨A2,c2,G2,hv,hO⟩:=ai.of_flat P8 aw cH;simp only [Value.slice.injEq,true_and] at hv;obtain ⟨rfl,rfl⟩:=hv;exact ⟨A',c',G2,rfl,hO,hb⟩
theorem apQ:(Tryz.prog.info? 138).map (λi=>(i.zero,i.size,i.bytes)) = some (some ((.agg #[.string ⟨#[]⟩,.int .i64 0,.slice none 0 0])),3,48):=by kernel_rfl
theorem apf:DL Tryz.prog 32 138 ((.agg #[.string ⟨#[]⟩,.int .i64 0,.slice none 0 0])) 3 48:=⟨Tryz.underlying32,apQ,rfl,J⟩
theorem afq (xs:List aL) (A:Option Addr) (c:Nat) (F:List Nat) (w:World) (h:Sl w xs A c F) (hl:(xs.length:Int)<=1048576) :
 Calls Tryz.prog 113 #[.slice A xs.length c] w λe w'=>∃A' c' ds G,e = .returned (.slice A' xs.length c')/\w'.ownsRow w.heap.size 138 3 (.slice A' xs.length c') xs.length ds/\jo w' xs ds G/\(∀b∈G,b∈F)/\Below w.heap.size w w':=by
 cases A with
 | none =>
   obtain rfl:xs = []:=by exact t6
   have zk:∀(w:World) (a:Option Addr) (n c n' c':Nat),(binOp .eql 32 (.slice a n c) (.slice none n' c')).run Tryz.prog w = .ok (.bool a.isNone) w:=λw a n c n' c'=>Lib.run_eql_slice_nil w _ _ a n c n' c' Tryz.underlying32;go_enter Tryz.func113,Tryz.ntmps113;exact ub
 | some ad =>
   have H:=I h;clear h;have zk:∀(w:World) (a:Option Addr) (n c n' c':Nat),(binOp .eql 32 (.slice a n c) (.slice none n' c')).run Tryz.prog w = .ok (.bool a.isNone) w:=λw a n c n' c'=>Lib.run_eql_slice_nil w _ _ a n c n' c' Tryz.underlying32;go_enter Tryz.func113,Tryz.ntmps113
   go_wp2_with (
    at_builtin
    go_must (refine rW apf J' J' _ _ J' _ w.heap.size _ 0 [] (World.ownsRow_made (size:=3) w #[] 0 (Nat.le_refl _) (Nat.zero_le _) S') J' xs (some ad) c F (H.out.ext (ak (aj _) _)) J' J J S' ?_)
    intro v2 w2 ds G cH bi aw hg cF;go_must (obtain ⟨A2,c2,eO⟩:=mY aw)
    go_must (subst eO))
   simp only [Nat.zero_add,List.nil_append] at aw;go_ret
   refine ⟨A2,c2,ds,G,S',aw,cH.frame (λb hb=>hg.block b (cH.lt b hb) (λe=>?_)) hg.size,bi,lS (World.ownsRow_made (e:=138) (size:=3) w #[] 0 (Nat.le_refl _) (Nat.zero_le _) S') hg (ak (aj _) _) S'⟩;exact uk
theorem Of (xs:List aL) (A:Option Addr) (c:Nat) (F:List Nat) (w:World) (h:Sl w xs A c F) (hl:(xs.length:Int)<=1048576) (hv:∀x∈xs,(x.values.length:Int)<=1048576) :
 Calls Tryz.prog 71 #[.slice A xs.length c] w λe w'=>∃A' c' F',e = .returned (.slice A' xs.length c')/\ai w' w.heap.size xs [.slice A' xs.length c'] F'/\Below w.heap.size w w':=by
 have HV:=I hv;clear hv;go_enter Tryz.func71,Tryz.ntmps71;go_wp2_with fail
 refine (afq xs A c F w h hl).mono ?_;rintro e w1 ⟨A',c',ds,G,rfl,aw,cH,bi,aR⟩;rcases eo.oJ aw with ⟨hv,hn⟩ | ⟨g,cap,N,hv,hg,hfill,eS,hmx⟩
 ·obtain rfl:=List.eq_nil_of_length_eq_zero hn;simp only [Value.slice.injEq] at hv;obtain ⟨rfl,_,rfl⟩:=hv;clear aw cH;simp only [List.length_nil] at *;have ap:(0:Int) < 0↔False:=by simp
  go_wp2_with fail
  go_loopw [10] (λi wr=>i = .int .i64 0/\wr = w1) (λ_ _=>0)
  case atStart=>exact ⟨rfl,rfl⟩
  case round =>
   obtain ⟨rfl,rfl⟩:=hrel;go_wp2;go_ret
   exact ⟨_,_,_,rfl,⟨Sl.nil _ none 0 (Nat.zero_le _),List.nodup_nil,(λb hb=>by cases hb),(λb hb=>by cases hb)⟩,aR⟩
 ·simp only [Value.slice.injEq,true_and] at hv;obtain ⟨rfl,rfl⟩:=hv;clear aw;go_wp2_with fail
  go_loopw [10] (λi wr=>∃(k:Nat) (es d2:List Value) (G2 F':List Nat),k<=xs.length/\i = .int .i64 k/\Hid (es.length = k * 3)/\eo wr g 138 N (es++d2)/\jo w1 (xs.drop k) d2 G2/\aY wr (g+1) (xs.take k) es F'/\Below w.heap.size w wr) (λi _=>xs.length - (intOf i).toNat)
  case atStart=>exact ⟨0,[],ds,G,[],Nat.zero_le _,rfl,by show _ = _;simp,by simpa using hfill,by simpa using cH,aY.nil _ _,aR⟩
  case round =>
   obtain ⟨k,es,d2,G2,F',hk,rfl,hd,hf,eT,hO,aM⟩:=hrel;by_cases ap:k < xs.length
   ·have hdk:xs.drop k = xs[k] :: xs.drop (k+1):=(List.getElem_cons_drop ..).symm;rw [hdk] at eT;obtain ⟨c1,d3,F1,F3,rfl,_,gO,uL⟩:=eT;obtain ⟨DT,DU,alQ,ar,hF3,adC,hop3,abp⟩:=og gO;subst ar;clear hF3 gO hdk;obtain ⟨b,o,ck,Fk,rfl,o9,hbs,hr,mN,hc⟩:=(h.ext aM).get ap;obtain ⟨pX,pY,KG,ar,hF1,xO,kw,wO⟩:=og hr;subst ar;clear hF1 hr;obtain ⟨q0,q1,q2⟩:=oa 3 hc;clear hc;have zl:=HV.out xs[k] (List.getElem_mem ap);have hfl:=hf.lt;have hlf:(es++(([.string xs[k].key,.int .i64 xs[k].op,.slice DT xs[k].values.length DU]:List Value)++d3)).length<=N:=(by obtain ⟨_,_,_,h3,_⟩:=hf;exact h3);simp only [List.length_append,List.length_cons,List.length_nil] at hlf;go_wp2_with fail
    refine (Ox xs[k].values _ _ _ _ (wO.ext bJ) zl).mono ?_;rintro e w2 ⟨A2,c2,G2',rfl,bj,am⟩;have iL:Below wr.heap.size wr w2:=ah (ak (aj _) _) am;have Vx:=hf.keep (iL.block _ hfl);have sC:=Vx.frozen (k * 3+2);obtain ⟨u2,dB⟩:∃u,w2.cell? ⟨g,k * 3+2,none⟩ = some u:=Vx.cell (i:=k * 3+2) auz;have Ff:wr.heap.size < w2.heap.size:=(by have:=am.size;simp at this;omega);go_wp2_with fail
    have hF:=Vx.set (i:=k * 3+2) (by have:=hd.out;simp;omega) (.slice A2 xs[k].values.length c2);have Vy:(es++(([.string xs[k].key,.int .i64 xs[k].op,.slice DT xs[k].values.length DU]:List Value)++d3)).set (k * 3+2) (.slice A2 xs[k].values.length c2) = (es++[.string xs[k].key,.int .i64 xs[k].op,.slice A2 xs[k].values.length c2])++d3:=by rw [List.set_append_right _ _ (show es.length<=k * 3+2 from by have:=hd.out;omega),show k * 3+2 - es.length = 2 from by have:=hd.out;omega];simp
    rw [Vy] at hF;have tD:ai w2 (g+1) xs[k] [.string xs[k].key,.int .i64 xs[k].op,.slice A2 xs[k].values.length c2] G2':=by refine ai.up (B':=g+1) (λx:aL=>(x.key,x.op,x.values)) ?_ (Nat.le_refl _);refine ai.cons (c1:=[.string xs[k].key]) (rdStr _ _ (rV xO)) ?_;refine ai.cons (c1:=[.int .i64 xs[k].op]) (jL _ _ kw) ?_;exact bj.mono (by simp;omega)
    have hP:=(hO.ext iL).push (B':=wr.heap.size) (x:=xs[k]) ⟨tD.rd,tD.nodup,λb hb=>by have:=bj.base b hb;simp at this;omega,tD.plain⟩ hfl hO.lt;rw [<- List.take_succ_eq_append_getElem ap] at hP;exact ⟨⟨k+1,es++[.string xs[k].key,.int .i64 xs[k].op,.slice A2 xs[k].values.length c2],d3,F3,_,J,N',by show _ = _;(simp [hd.out]) <;> omega,hF,uL,hP.setCell (p:=⟨g,k * 3+2,none⟩) (Nat.lt_succ_self _) _,aC (ah aM iL) hg _⟩,by simp [intOf];omega⟩
   ·have bz:k = xs.length:=J;subst bz;rw [List.drop_length] at eT;obtain ⟨rfl,_⟩:=eT;rw [List.append_nil] at hf;rw [List.take_length] at hO;go_wp2;go_ret
    exact ⟨_,_,_,rfl,(ai.Ep hf hO eS hmx).mono hg,aM⟩
theorem ayq (xs:List aL) (A:Option Addr) (c:Nat) (F:List Nat) (w:World) (h:Sl w xs A c F) (hl:(xs.length:Int)<=1048576) (hv:∀x∈xs,(x.values.length:Int)<=1048576) :
 Calls Tryz.prog 96 #[.slice A xs.length c] w λe w'=>∃v ds F',e = .returned v/\w'.ownsRow w.heap.size 138 3 v xs.length ds/\aY w' w.heap.size xs ds F'/\(∀g,v.ownBlock = some g->g∉F')/\Below w.heap.size w w':=by
 have HV:=I hv;clear hv;go_enter Tryz.func96,Tryz.ntmps96;go_wp2_with fail
 go_loopw [3,4] (λv i wr=>∃(k:Nat) (ds:List Value) (F':List Nat),k<=xs.length/\i = .int .i64 k/\wr.ownsRow w.heap.size 138 3 v k ds/\aY wr w.heap.size (xs.take k) ds F'/\(∀g,v.ownBlock = some g->g∉F')/\Below w.heap.size w wr) (λ_ i _=>xs.length - (intOf i).toNat)
 case atStart=>exact ⟨0,[],[],Nat.zero_le _,rfl,World.ownsRow_made (size:=3) w #[] 0 (Nat.le_refl _) (Nat.zero_le _) S',aY.nil _ _,(λg _ hm=>by cases hm),ak (aj _) _⟩
 case round =>
  obtain ⟨k,ds,F',hk,rfl,aw,hO,bI,aM⟩:=hrel;by_cases ap:k < xs.length
  ·obtain ⟨b,o,ck,Fk,rfl,o9,hbs,hr,mN,hc⟩:=(h.ext aM).get ap;obtain ⟨pX,pY,KG,ar,hF1,xO,kw,wO⟩:=og hr;subst ar;clear hF1 hr;obtain ⟨q0,q1,q2⟩:=oa 3 hc;clear hc;have zl:=HV.out xs[k] (List.getElem_mem ap);obtain ⟨Av,cv,ic⟩:=mY aw;subst ic;have HO:=I aw;have HN:=I bI;have Ia:=I aM;have Y6:=I hO.lt;clear aw bI aM;have Og:=oG.new wr [.string xs[k].key,.int .i64 xs[k].op,.slice pX xs[k].values.length pY] 138
   have HM:=I (show ((wr.alloc (.cells ([.string xs[k].key,.int .i64 xs[k].op,.slice pX xs[k].values.length pY]:List Value).toArray 138)).alloc (.cells #[] 9)).ownsRow (wr.heap.size+1) 9 1 (.slice (some ⟨wr.heap.size+1,0,none⟩) 0 0) 0 [] from by
    have:=World.ownsRow_made (base:=wr.heap.size+1) (e:=9) (size:=1) (wr.alloc (.cells ([.string xs[k].key,.int .i64 xs[k].op,.slice pX xs[k].values.length pY]:List Value).toArray 138)) #[] 0 S' (Nat.zero_le _) S';rw [World.size_alloc] at this
    exact this)
   go_wp2_with (first
    | (at_builtin
       refine rW (o:=⟨some 20,_,_,_,_,_⟩) Ud J' J' _ _ J' _ (wr.heap.size+1) _ 0 [] HM.out J' xs[k].values pX pY _ (wO.ext (ak (ak (aj _) _) _)) J' J J S' ?_;intro v2 w2 Vz G cH bi eP hg cF;go_must (obtain ⟨A2,c2,eO⟩:=mY eP)
       go_must (subst eO)
       go_must (simp only [Nat.zero_add,List.nil_append] at eP)
       go_must (have am:Below wr.heap.size wr w2:=lS (vP HM.out (Nat.le_succ _)) hg (ak (ak (aj _) _) _) (by simp;omega))
       go_must (have Fg:oG w2 wr.heap.size [.string xs[k].key,.int .i64 xs[k].op,.slice pX xs[k].values.length pY]:=Og.keep ((hg.block _ (by simp;omega) T5).trans (heap_alloc_old _ _ S')))
       go_must (have tm:jo w2 xs[k].values Vz G:=cH.frame (λb hb=>hg.block b (cH.lt b hb) (λe=>by have:=(wO.lt b (bi b hb));simp [Value.ownBlock] at e;omega)) hg.size)
       go_must (obtain ⟨A3,c3,G3,mK,bj⟩:=ai.of_flat P8 eP tm)
       go_must (simp only [Value.slice.injEq,true_and] at mK)
       go_must (obtain ⟨rfl,rfl⟩:=mK)
       go_must (have k0:=Fg.cell (i:=0) (u:=.string xs[k].key) rfl)
       go_must (have k1:=Fg.cell (i:=1) (u:=.int .i64 xs[k].op) rfl)
       go_must (have k2:=Fg.cell (i:=2) (u:=.slice pX xs[k].values.length pY) rfl)
       go_must (have kl:=Fg.lt)
       go_must (have kf:=Fg.fz 2)
       go_must (have tD:ai w2 (wr.heap.size+1) xs[k] [.string xs[k].key,.int .i64 xs[k].op,.slice A2 xs[k].values.length c2] G3:=ai.up (B':=wr.heap.size+1) (λx:aL=>(x.key,x.op,x.values)) (ai.cons (c1:=[.string xs[k].key]) (rdStr _ _ (rV xO)) (ai.cons (c1:=[.int .i64 xs[k].op]) (jL _ _ kw) bj)) (Nat.le_refl _))
       go_must (have hOs:=tD.setCell (p:=⟨wr.heap.size,2,none⟩) (Nat.lt_succ_self _) (.slice A2 xs[k].values.length c2))
       go_must (have bB:(w2.setCell ⟨wr.heap.size,2,none⟩ (.slice A2 xs[k].values.length c2)).ownsRow w.heap.size 138 3 (.slice Av k cv) k ds:=EJ (mG HO.out am) (λg hg=>by have:=(HO.out.lt g hg).2;omega))
       go_must (have dC:aY (w2.setCell ⟨wr.heap.size,2,none⟩ (.slice A2 xs[k].values.length c2)) w.heap.size (xs.take k) ds F':=(hO.ext am).keep (λy hy=>Below.heap_setCell _ _ _ _ (by have:=hO.lt y hy;dsimp only;omega)) fw)
       go_must (have VA:Below wr.heap.size wr (w2.setCell ⟨wr.heap.size,2,none⟩ (.slice A2 xs[k].values.length c2)):=aC am (Nat.le_refl _) _)
       go_must (have bo:=Fg.put 2 (.slice A2 xs[k].values.length c2))
       go_must (have HOS:=I hOs)
       go_must (have HR:=I bB)
       go_must (have HC:=I dC)
       go_must (have HBS:=I VA)
       go_must (have Ff:=VA.size)
       go_must (clear tD bj cH tm eP hO Og Fg hg cF am hOs dC VA))
    | (at_builtin
       refine uf (o:=⟨some 25,_,_,_,_,_⟩) apf J' _ _ J' _ _ _ _ _ bB J' [.string xs[k].key,.int .i64 xs[k].op,.slice A2 xs[k].values.length c2] po J' fm J J (by have:=Ia.out.size;omega) ?_
       intro v4 w4 eM pZ Wy zm))
   have aM:=Ia.out;obtain ⟨uZ,hne4⟩:=aY.Ri (v':=v4) HR.out HC.out HN.out HOS.out (by have:=aM.size;omega) (λg hg=>by have:=(HO.out.lt g hg).2;omega) (λy hy=>by have:=Y6.out y hy;omega) pZ zm;rw [<- List.take_succ_eq_append_getElem ap] at uZ;exact ⟨⟨k+1,_,_,J,N',eM,uZ,hne4,lS (vP HR.out (Nat.le_refl _)) pZ (ah aM HBS.out) (by have:=aM.size;omega)⟩,by simp [intOf];omega⟩
  ·have bz:k = xs.length:=J;subst bz;rw [List.take_length] at hO;obtain ⟨Ah,ch,hvh⟩:=mY aw;subst hvh;have HO:=I aw;clear aw;go_wp2;go_ret
   exact ⟨_,ds,F',rfl,HO.out,hO,bI,aM⟩
theorem R8 (xs:List aL) (A:Option Addr) (c:Nat) (F:List Nat) (w:World) (h:Sl w xs A c F) (hl:(xs.length:Int)<=1048576) (hv:∀x∈xs,(x.values.length:Int)<=1048576) :
 Calls Tryz.prog 96 #[.slice A xs.length c] w λe w'=>∃A' c' F',e = .returned (.slice A' xs.length c')/\ai w' w.heap.size xs [.slice A' xs.length c'] F'/\Below w.heap.size w w' :=
 (ayq xs A c F w h hl hv).mono λe w' ⟨v,ds,F',he,aw,hO,bI,hb⟩=>by
  obtain ⟨Ah,ch,Gh,rfl,Xp⟩:=ai.oJ aw hO bI;exact ⟨_,_,_,he,Xp,hb⟩
end Go.Proofs.YtdegaofigemegaaGreat
