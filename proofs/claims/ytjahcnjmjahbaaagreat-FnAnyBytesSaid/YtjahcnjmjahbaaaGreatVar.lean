/- VarText, of the program and of the reference: the bytes of a number, seven bits a byte. -/
import Derived.Test.YtjahcnjmjahbaaaGreatReadVarP
namespace Go.Proofs.YtjahcnjmjahbaaaGreat
open Go.ChangeShapes Go.WideShapes Go.ChangeAt Go.RowKit
set_option linter.unusedVariables false
set_option linter.unusedSimpArgs false
set_option maxHeartbeats 4000000
set_option maxRecDepth 100000
theorem wE (n:Int) (w:World) (hn:aR n):Calls Tryz.prog 29 #[.int .i64 n] w λe w'=>e = .returned (.string (jD n))/\Below w.heap.size w w':=by
 obtain ⟨ie,yc⟩:=hn;by_cases dz:n < 0
 ·go_enter Tryz.func29,Tryz.ntmps29;go_wp2;go_ret
  exact ⟨by unfold jD;rw [if_pos dz];rfl,aj _⟩
 ·obtain ⟨m,rfl⟩:=Int.eq_ofNat_of_zero_le (show 0<=n by omega);have bb:jD (m:Int) = ⟨(LG m).toArray⟩:=by unfold jD;rw [if_neg dz];rfl
  have HF:=I bb;clear bb dz;have FG:=W4 (n:=m) J;clear ie yc;go_enter Tryz.func29,Tryz.ntmps29;go_wp2_with fail
  go_loopw [0,3] (λx v wr=>∃(p:List UInt8) (j:Nat),x = .int .i64 j/\Hid (p++LG j = LG m)/\p.length<=9/\wr.ownsRow w.heap.size 5 1 v p.length (p.map B8)/\Below w.heap.size w wr) (λx _ _=>(intOf x).toNat)
  case atStart=>exact ⟨[],m,rfl,rfl,S',by simpa using World.ownsRow_made w #[] 0 (Nat.le_refl _) jp rfl,ak (aj _) _⟩
  case round =>
   obtain ⟨p,j,rfl,hp,fk,ar,ax⟩:=hrel;by_cases hj:(128:Int)<=(j:Int)
   ·have vB:=OK j;go_wp2_with (at_builtin;refine lC xV rfl _ _ rfl _ _ _ _ _ ar rfl _ rfl rfl dv J J (by exact ax.size) ?_;intro v2 w2 bR eE cr)
    clear vB;have h2:=aml hp.out J;refine ⟨⟨_,j / 128,N',h2,aps h2 FG,?_,lS ar eE ax ax.size⟩,by simp [intOf];omega⟩;rw [List.length_append,List.map_append,List.length_singleton,List.map_singleton,TL _ J];exact bR
   ·have DE:(j:Int) < 128:=J;have hj3:(j:Int) % 256 = j:=J;have hl:=amk hp.out J
    go_wp2_with (at_builtin;refine lC xV rfl _ _ rfl _ _ _ _ _ ar rfl _ rfl rfl dv J J (by exact ax.size) ?_;intro v2 w2 bR eE cr
                 have hcv:=Xf (dst:=9) (l:=p++[j.toUInt8]) Tryz.underlying22 Tryz.underlying5 Tryz.underlying9 (by rw [List.map_append,List.map_singleton,TL _ J];exact bR))
    go_ret
    exact ⟨by rw [HF.out,<- hl];rfl,lS ar eE ax ax.size⟩
theorem uP (n:Int) (w:World) (hn:aR n):Calls Tryz.prog 81 #[.int .i64 n] w λe w'=>e = .returned (.string (jD n))/\Below w.heap.size w w':=by
 obtain ⟨ie,yc⟩:=hn;by_cases dz:n < 0
 ·have aap:n<=127:=by omega
  go_enter Tryz.func81,Tryz.ntmps81;go_wp2_with fail
  go_loopw [0,3] (λx v wr=>x = .int .i64 n/\Below w.heap.size w wr) (λ_ _ _=>0)
  case atStart=>exact ⟨rfl,ak (aj _) _⟩
  case round =>
   obtain ⟨rfl,ax⟩:=hrel;go_wp2;go_ret
   exact ⟨by unfold jD;rw [if_pos dz];rfl,ax⟩
 ·obtain ⟨m,rfl⟩:=Int.eq_ofNat_of_zero_le (show 0<=n by omega);have bb:jD (m:Int) = ⟨(LG m).toArray⟩:=by unfold jD;rw [if_neg dz];rfl
  have HF:=I bb;clear bb dz;have FG:=W4 (n:=m) J;clear ie;go_enter Tryz.func81,Tryz.ntmps81;go_wp2_with fail
  go_loopw [0,3] (λx v wr=>∃(p:List UInt8) (j:Nat),x = .int .i64 j/\Hid (p++LG j = LG m)/\Hid (j<=m)/\p.length<=9/\wr.ownsRow w.heap.size 5 1 v p.length (p.map B8)/\Below w.heap.size w wr) (λx _ _=>(intOf x).toNat)
  case atStart=>exact ⟨[],m,rfl,rfl,Nat.le_refl _,S',by simpa using World.ownsRow_made w #[] 0 (Nat.le_refl _) jp rfl,ak (aj _) _⟩
  case round =>
   obtain ⟨p,j,rfl,hp,hjm,fk,ar,ax⟩:=hrel;by_cases hj:(128:Int)<=(j:Int)
   ·have hjb:(j:Int)<=9223372036854775807:=(by have:=hjm.out;omega);have W5:(127:Int) < (j:Int):=J;have cH:(0:Int)<=(j:Int) % 128:=J;have f':(j:Int) % 128 < 128:=J;go_wp2_with (at_builtin;refine lC xV rfl _ _ rfl _ _ _ _ _ ar rfl _ rfl rfl dv J J (by exact ax.size) ?_;intro v2 w2 bR eE cr)
    have h2:=aml hp.out J;refine ⟨⟨_,j / 128,N',h2,Nat.le_trans (Nat.div_le_self ..) hjm.out,aps h2 FG,?_,lS ar eE ax ax.size⟩,by simp [intOf];omega⟩;rw [List.length_append,List.map_append,List.length_singleton,List.map_singleton,TL _ J,show ((j % 128+128:Nat):Int) = 128+(j:Int) % 128 by omega];exact bR
   ·have DE:(j:Int)<=127:=J;have hj3:(j:Int) % 256 = j:=J;have hl:=amk hp.out J
    go_wp2_with (at_builtin;refine lC xV rfl _ _ rfl _ _ _ _ _ ar rfl _ rfl rfl dv J J (by exact ax.size) ?_;intro v2 w2 bR eE cr
                 have hcv:=Xf (dst:=9) (l:=p++[j.toUInt8]) Tryz.underlying22 Tryz.underlying5 Tryz.underlying9 (by rw [List.map_append,List.map_singleton,TL _ J];exact bR))
    go_ret
    exact ⟨by rw [HF.out,<- hl];rfl,lS ar eE ax ax.size⟩
def aL (s:ByteArray):ByteArray:=jD s.size++s
theorem bM (n:Int) (hn:aR n):(jD n).size<=10:=by
 unfold jD;split
 ·exact Nat.zero_le _
 ·show (LG n.toNat).toArray.size<=10;rw [List.size_toArray];exact W4 (by have:=hn.2;omega)
theorem iJ (s:ByteArray) (hs:(s.size:Int)<=1099511627776):(aL s).size<=s.size+10:=by
 have:=bM s.size ⟨J,J⟩;unfold aL;rw [ByteArray.size_append];omega
theorem zV (s:ByteArray) (w:World) (hs:(s.size:Int)<=1099511627776):Calls Tryz.prog 37 #[.string s] w λe w'=>e = .returned (.string (aL s))/\Below w.heap.size w w':=by
 have hI:aR s.size:=⟨J,J⟩;have hv:=bM _ hI;go_enter Tryz.func37,Tryz.ntmps37;go_wp2_with (go_at_call 29;refine (wE _ _ hI).mono ?_;rintro e w2 ⟨rfl,hb⟩)
 go_ret
 exact ⟨rfl,hb⟩
theorem zW (s:ByteArray) (w:World) (hs:(s.size:Int)<=1099511627776):Calls Tryz.prog 131 #[.string s] w λe w'=>e = .returned (.string (aL s))/\Below w.heap.size w w':=by
 have hI:aR s.size:=⟨J,J⟩;have hv:=bM _ hI;go_enter Tryz.func131,Tryz.ntmps131;go_wp2_with (go_at_call 81;refine (uP _ _ hI).mono ?_;rintro e w2 ⟨rfl,hb⟩)
 go_ret
 exact ⟨rfl,hb⟩
def oG (w:World) (g:Nat) (cs:List Value):Prop:=∃t,w.heap[g]? = some (.cells cs.toArray t (0,0))
section
variable {w w':World} {g:Nat} {cs:List Value}
theorem oG.lt (h:oG w g cs):g < w.heap.size:=by
 obtain ⟨t,h⟩:=h;rcases Nat.lt_or_ge g w.heap.size with am | iN
 ·exact am
 ·rw [Array.getElem?_eq_none iN] at h;cases h
theorem oG.cell (h:oG w g cs) {i:Nat} {u:Value} (hi:cs[i]? = some u):w.cell? ⟨g,i,none⟩ = some u:=by
 obtain ⟨t,h⟩:=h;rw [cell_of_row w g i _ t (0,0) h];simpa using hi
theorem oG.fz (h:oG w g cs) (i:Nat):w.frozen? ⟨g,i,none⟩ = false:=by obtain ⟨t,h⟩:=h;simp [World.frozen?,h]
theorem oG.keep (h:oG w g cs) (hk:w'.heap[g]? = w.heap[g]?):oG w' g cs:=by obtain ⟨t,h⟩:=h;exact ⟨t,hk.trans h⟩
theorem oG.put (h:oG w g cs) (i:Nat) (u:Value):oG (w.setCell ⟨g,i,none⟩ u) g (cs.set i u):=by
 obtain ⟨t,h⟩:=h;exact ⟨t,by simp [World.setCell,Array.getElem?_modify,h]⟩
theorem oG.br (h:oG w g cs) {c:Nat} (hc:c≠g) (i:Nat) (u:Value):oG (w.setCell ⟨c,i,none⟩ u) g cs:=h.keep (Below.heap_setCell _ _ _ _ bv)
theorem oG.new (w:World) (cs:List Value) (t:TypeId):oG (w.alloc (.cells cs.toArray t)) w.heap.size cs:=⟨t,heap_alloc_new w _⟩
theorem oG.ext (h:oG w g cs) (hb:Below w.heap.size w w'):oG w' g cs:=h.keep (hb.block g h.lt)
theorem oG.bE {b:Nat} (h:oG w g cs) (hu:nN [b] w w') (hg:g≠b):oG w' g cs:=h.keep (hu.block g h.lt (by simpa using hg))
end
theorem OS {w:World} {g:Nat} {a0 a1 a2:Value} {r:List Value} (h:oG w g (a0::a1::a2::r)):w.cell? ⟨g,0,none⟩ = some a0/\w.cell? ⟨g,1,none⟩ = some a1/\w.cell? ⟨g,2,none⟩ = some a2:=⟨h.cell (i:=0) rfl,h.cell (i:=1) rfl,h.cell (i:=2) rfl⟩
theorem Xo {w:World} {g:Nat} {a0 a1 a2 a3:Value} {r:List Value} (h:oG w g (a0::a1::a2::a3::r)):w.cell? ⟨g,0,none⟩ = some a0/\w.cell? ⟨g,1,none⟩ = some a1/\w.cell? ⟨g,2,none⟩ = some a2/\w.cell? ⟨g,3,none⟩ = some a3:=⟨h.cell (i:=0) rfl,h.cell (i:=1) rfl,h.cell (i:=2) rfl,h.cell (i:=3) rfl⟩
theorem cw {w:World} {g:Nat} {a0 a1 a2 a3 a4 a5:Value} {r:List Value} (h:oG w g (a0::a1::a2::a3::a4::a5::r)):w.cell? ⟨g,0,none⟩ = some a0/\w.cell? ⟨g,1,none⟩ = some a1/\w.cell? ⟨g,2,none⟩ = some a2/\w.cell? ⟨g,3,none⟩ = some a3/\w.cell? ⟨g,4,none⟩ = some a4/\w.cell? ⟨g,5,none⟩ = some a5:=⟨h.cell (i:=0) rfl,h.cell (i:=1) rfl,h.cell (i:=2) rfl,h.cell (i:=3) rfl,h.cell (i:=4) rfl,h.cell (i:=5) rfl⟩
theorem nv {w:World} {g:Nat} {a0 a1 a2 a3 a4 a5 a6:Value} {r:List Value} (h:oG w g (a0::a1::a2::a3::a4::a5::a6::r)):w.cell? ⟨g,0,none⟩ = some a0/\w.cell? ⟨g,1,none⟩ = some a1/\w.cell? ⟨g,2,none⟩ = some a2/\w.cell? ⟨g,3,none⟩ = some a3/\w.cell? ⟨g,4,none⟩ = some a4/\w.cell? ⟨g,5,none⟩ = some a5/\w.cell? ⟨g,6,none⟩ = some a6:=⟨h.cell (i:=0) rfl,h.cell (i:=1) rfl,h.cell (i:=2) rfl,h.cell (i:=3) rfl,h.cell (i:=4) rfl,h.cell (i:=5) rfl,h.cell (i:=6) rfl⟩
theorem Ea {w:World} {g:Nat} {a0 a1 a2 a3 a4 a5 a6 a7 a8:Value} {r:List Value} (h:oG w g (a0::a1::a2::a3::a4::a5::a6::a7::a8::r)):w.cell? ⟨g,0,none⟩ = some a0/\w.cell? ⟨g,1,none⟩ = some a1/\w.cell? ⟨g,2,none⟩ = some a2/\w.cell? ⟨g,3,none⟩ = some a3/\w.cell? ⟨g,4,none⟩ = some a4/\w.cell? ⟨g,5,none⟩ = some a5/\w.cell? ⟨g,6,none⟩ = some a6/\w.cell? ⟨g,7,none⟩ = some a7/\w.cell? ⟨g,8,none⟩ = some a8:=⟨h.cell (i:=0) rfl,h.cell (i:=1) rfl,h.cell (i:=2) rfl,h.cell (i:=3) rfl,h.cell (i:=4) rfl,h.cell (i:=5) rfl,h.cell (i:=6) rfl,h.cell (i:=7) rfl,h.cell (i:=8) rfl⟩
theorem Xs {w:World} {g:Nat} {a0 a1 a2:Value} {r:List Value} (h:oG w g (a0::a1::a2::r)):w.cell? ⟨g,0,none⟩ = some a0/\w.frozen? ⟨g,0,none⟩ = false/\w.cell? ⟨g,1,none⟩ = some a1/\w.frozen? ⟨g,1,none⟩ = false/\w.cell? ⟨g,2,none⟩ = some a2/\w.frozen? ⟨g,2,none⟩ = false:=⟨h.cell (i:=0) rfl,h.fz 0,h.cell (i:=1) rfl,h.fz 1,h.cell (i:=2) rfl,h.fz 2⟩
theorem Iu {w:World} {g:Nat} {a0 a1 a2 a3:Value} {r:List Value} (h:oG w g (a0::a1::a2::a3::r)):w.cell? ⟨g,0,none⟩ = some a0/\w.frozen? ⟨g,0,none⟩ = false/\w.cell? ⟨g,1,none⟩ = some a1/\w.frozen? ⟨g,1,none⟩ = false/\w.cell? ⟨g,2,none⟩ = some a2/\w.frozen? ⟨g,2,none⟩ = false/\w.cell? ⟨g,3,none⟩ = some a3/\w.frozen? ⟨g,3,none⟩ = false:=⟨h.cell (i:=0) rfl,h.fz 0,h.cell (i:=1) rfl,h.fz 1,h.cell (i:=2) rfl,h.fz 2,h.cell (i:=3) rfl,h.fz 3⟩
theorem vi {w:World} {g:Nat} {a0 a1 a2 a3 a4 a5:Value} {r:List Value} (h:oG w g (a0::a1::a2::a3::a4::a5::r)):w.cell? ⟨g,0,none⟩ = some a0/\w.frozen? ⟨g,0,none⟩ = false/\w.cell? ⟨g,1,none⟩ = some a1/\w.frozen? ⟨g,1,none⟩ = false/\w.cell? ⟨g,2,none⟩ = some a2/\w.frozen? ⟨g,2,none⟩ = false/\w.cell? ⟨g,3,none⟩ = some a3/\w.frozen? ⟨g,3,none⟩ = false/\w.cell? ⟨g,4,none⟩ = some a4/\w.frozen? ⟨g,4,none⟩ = false/\w.cell? ⟨g,5,none⟩ = some a5/\w.frozen? ⟨g,5,none⟩ = false:=⟨h.cell (i:=0) rfl,h.fz 0,h.cell (i:=1) rfl,h.fz 1,h.cell (i:=2) rfl,h.fz 2,h.cell (i:=3) rfl,h.fz 3,h.cell (i:=4) rfl,h.fz 4,h.cell (i:=5) rfl,h.fz 5⟩
theorem x4 {w:World} {g:Nat} {a0 a1 a2 a3 a4 a5 a6:Value} {r:List Value} (h:oG w g (a0::a1::a2::a3::a4::a5::a6::r)):w.cell? ⟨g,0,none⟩ = some a0/\w.frozen? ⟨g,0,none⟩ = false/\w.cell? ⟨g,1,none⟩ = some a1/\w.frozen? ⟨g,1,none⟩ = false/\w.cell? ⟨g,2,none⟩ = some a2/\w.frozen? ⟨g,2,none⟩ = false/\w.cell? ⟨g,3,none⟩ = some a3/\w.frozen? ⟨g,3,none⟩ = false/\w.cell? ⟨g,4,none⟩ = some a4/\w.frozen? ⟨g,4,none⟩ = false/\w.cell? ⟨g,5,none⟩ = some a5/\w.frozen? ⟨g,5,none⟩ = false/\w.cell? ⟨g,6,none⟩ = some a6/\w.frozen? ⟨g,6,none⟩ = false:=⟨h.cell (i:=0) rfl,h.fz 0,h.cell (i:=1) rfl,h.fz 1,h.cell (i:=2) rfl,h.fz 2,h.cell (i:=3) rfl,h.fz 3,h.cell (i:=4) rfl,h.fz 4,h.cell (i:=5) rfl,h.fz 5,h.cell (i:=6) rfl,h.fz 6⟩
theorem OY {w:World} {g:Nat} {a0 a1 a2 a3 a4 a5 a6 a7 a8 a9 a10 a11 a12 a13:Value} {r:List Value} (h:oG w g (a0::a1::a2::a3::a4::a5::a6::a7::a8::a9::a10::a11::a12::a13::r)):w.cell? ⟨g,0,none⟩ = some a0/\w.frozen? ⟨g,0,none⟩ = false/\w.cell? ⟨g,1,none⟩ = some a1/\w.frozen? ⟨g,1,none⟩ = false/\w.cell? ⟨g,2,none⟩ = some a2/\w.frozen? ⟨g,2,none⟩ = false/\w.cell? ⟨g,3,none⟩ = some a3/\w.frozen? ⟨g,3,none⟩ = false/\w.cell? ⟨g,4,none⟩ = some a4/\w.frozen? ⟨g,4,none⟩ = false/\w.cell? ⟨g,5,none⟩ = some a5/\w.frozen? ⟨g,5,none⟩ = false/\w.cell? ⟨g,6,none⟩ = some a6/\w.frozen? ⟨g,6,none⟩ = false/\w.cell? ⟨g,7,none⟩ = some a7/\w.frozen? ⟨g,7,none⟩ = false/\w.cell? ⟨g,8,none⟩ = some a8/\w.frozen? ⟨g,8,none⟩ = false/\w.cell? ⟨g,9,none⟩ = some a9/\w.frozen? ⟨g,9,none⟩ = false/\w.cell? ⟨g,10,none⟩ = some a10/\w.frozen? ⟨g,10,none⟩ = false/\w.cell? ⟨g,11,none⟩ = some a11/\w.frozen? ⟨g,11,none⟩ = false/\w.cell? ⟨g,12,none⟩ = some a12/\w.frozen? ⟨g,12,none⟩ = false/\w.cell? ⟨g,13,none⟩ = some a13/\w.frozen? ⟨g,13,none⟩ = false:=⟨h.cell (i:=0) rfl,h.fz 0,h.cell (i:=1) rfl,h.fz 1,h.cell (i:=2) rfl,h.fz 2,h.cell (i:=3) rfl,h.fz 3,h.cell (i:=4) rfl,h.fz 4,h.cell (i:=5) rfl,h.fz 5,h.cell (i:=6) rfl,h.fz 6,h.cell (i:=7) rfl,h.fz 7,h.cell (i:=8) rfl,h.fz 8,h.cell (i:=9) rfl,h.fz 9,h.cell (i:=10) rfl,h.fz 10,h.cell (i:=11) rfl,h.fz 11,h.cell (i:=12) rfl,h.fz 12,h.cell (i:=13) rfl,h.fz 13⟩
theorem ace (s:ByteArray) (at_:Int) (w:World) (hs:(s.size:Int)<=1048576) (cD:aR at_) :
 Calls Tryz.prog 72 #[.string s,.int .i64 at_] w λe w'=>e = .returned (LB (Af s at_))/\w' = w:=by
 by_cases dz:at_ < 0
 ·have bb:Af s at_ = none:=by unfold Af;rw [if_pos dz]
  rw [bb];go_enter Tryz.func72,Tryz.ntmps72;go_wp2;go_returns
  exact ⟨rfl,rfl⟩
 ·obtain ⟨a,rfl⟩:=Int.eq_ofNat_of_zero_le (show 0<=at_ by omega);have bb:Af s (a:Int) = Xc s a 0 0:=by unfold Af;rw [if_neg dz];rfl
  have HF:=I bb;have x6:=cD.2;clear bb dz;go_enter Tryz.func72,Tryz.ntmps72;go_wp2;go_loop [1,6,7] (λx y z=>∃(k n:Nat),k<=9/\x = .int .i64 ((a+k:Nat):Int)/\y = .int .i64 (n:Int)/\z = .int .i64 (k:Int)/\Hid (n < 2 ^ (7 * k))/\Hid (0 < k->a+k<=s.size)/\Hid (Xc s a 0 0 = Xc s a k n)) (λ_ _ z=>9 - (intOf z).toNat)
  case atStart=>exact ⟨0,0,J,S',rfl,rfl,by show 0 < 2 ^ (7 * 0);decide,λh=>by omega,rfl⟩
  case round =>
   obtain ⟨k,n,hk,rfl,rfl,rfl,HN,HA,HO⟩:=hrel;by_cases dc:k < 9
   ·by_cases am:a+k < s.size
    ·have GA:((a+k:Nat):Int) < s.size:=J;have Rk:s[a+k].toNat < 256:=s[a+k].toNat_lt;have hand:=i64_and127 (s[a+k].toNat:Int);have fZ:((s[a+k].toNat:Int) % 128) = ((s[a+k].toNat % 128:Nat):Int):=J;rw [fZ] at hand;have hmul:∀P:Nat,((s[a+k].toNat % 128:Nat):Int) * (P:Int) = ((s[a+k].toNat % 128 * P:Nat):Int):=λP=>by push_cast;rfl
     have ed:n < 2 ^ 63:=Nat.lt_of_lt_of_le HN.out (Nat.pow_le_pow_right (by decide) J);obtain rfl | rfl | rfl | rfl | rfl | rfl | rfl | rfl | rfl:k = 0∨k = 1∨k = 2∨k = 3∨k = 4∨k = 5∨k = 6∨k = 7∨k = 8:=by omega
     ·have Ic:(s[a].toNat:Int) < 256:=(by have:s[a].toNat < 256:=s[a].toNat_lt;omega);have Yl:0<=(s[a].toNat:Int):=J;replace hand:=i64_and127 (s[a].toNat:Int);have vB:bits .or .i64 (n:Int) ((s[a].toNat:Int) % 128) = ((n+s[a].toNat % 128 * 1:Nat):Int):=by
       have h9:=PS 0 n (s[a].toNat % 128 * 1) xP (Nat.mul_mod_left _ 1) ed J;exact lH
      have cS:n+s[a].toNat % 128 * 1 < 2 ^ (7 * (0+1)):=(by have:=HN.out;simp at this |-;omega);have MO:=I cS;clear cS ed;by_cases hc:s[a].toNat < 128
      ·have ee:(s[a].toNat:Int) < 128:=J;have HG:=I (HO.out.trans (x9 (n:=n) dc am (by show s[a].toNat < 128;omega) (λh=>absurd h.2 (by decide))));clear fZ hmul;cases tD:((s[a].toNat:Int) == 0)
       all_goals
        go_wp2;go_returns
        exact ⟨by rw [HF.out,HG.out];unfold LB;first | rfl | simp,rfl⟩
      ·have ee:¬(s[a].toNat:Int) < 128:=J;have HG:=I (HO.out.trans (uT (n:=n) dc am (by show 128<=s[a].toNat;omega)));clear fZ hmul;go_wp2;exact ⟨⟨0+1,n+s[a].toNat % 128 * 1,J,N',ve,N',MO.out,mu,HG.out⟩,by simp [intOf]⟩
     ·have Ic:(s[a+1].toNat:Int) < 256:=(by have:s[a+1].toNat < 256:=s[a+1].toNat_lt;omega);have Yl:0<=(s[a+1].toNat:Int):=J;replace hand:=i64_and127 (s[a+1].toNat:Int);have vB:bits .or .i64 (n:Int) ((s[a+1].toNat:Int) % 128 * 128) = ((n+s[a+1].toNat % 128 * 128:Nat):Int):=by
       have h9:=PS 7 n (s[a+1].toNat % 128 * 128) xP (Nat.mul_mod_left _ 128) ed J;exact lH
      have cS:n+s[a+1].toNat % 128 * 128 < 2 ^ (7 * (1+1)):=(by have:=HN.out;simp at this |-;omega);have MO:=I cS;clear cS ed;by_cases hc:s[a+1].toNat < 128
      ·have ee:(s[a+1].toNat:Int) < 128:=J;by_cases hz:s[a+1].toNat = 0
       ·have HG:=I (HO.out.trans (wX (n:=n) dc am hz (by decide)));have eW:((s[a+1].toNat:Int) == 0) = true:=(by simp [hz]);have oS:(s[a+1].toNat:Int) = 0:=J;exact mK
       ·have HG:=I (HO.out.trans (x9 (n:=n) dc am (by show s[a+1].toNat < 128;omega) (λh=>hz h.1)));have eW:((s[a+1].toNat:Int) == 0) = false:=(by rw [beq_eq_false_iff_ne];omega);exact mH
      ·have ee:¬(s[a+1].toNat:Int) < 128:=J;have HG:=I (HO.out.trans (uT (n:=n) dc am (by show 128<=s[a+1].toNat;omega)));clear fZ hmul;go_wp2;exact ⟨⟨1+1,n+s[a+1].toNat % 128 * 128,J,N',ve,N',MO.out,mu,HG.out⟩,by simp [intOf]⟩
     ·have Ic:(s[a+2].toNat:Int) < 256:=(by have:s[a+2].toNat < 256:=s[a+2].toNat_lt;omega);have Yl:0<=(s[a+2].toNat:Int):=J;replace hand:=i64_and127 (s[a+2].toNat:Int);have vB:bits .or .i64 (n:Int) ((s[a+2].toNat:Int) % 128 * 16384) = ((n+s[a+2].toNat % 128 * 16384:Nat):Int):=by
       have h9:=PS 14 n (s[a+2].toNat % 128 * 16384) xP (Nat.mul_mod_left _ 16384) ed J;exact lH
      have cS:n+s[a+2].toNat % 128 * 16384 < 2 ^ (7 * (2+1)):=(by have:=HN.out;simp at this |-;omega);have MO:=I cS;clear cS ed;by_cases hc:s[a+2].toNat < 128
      ·have ee:(s[a+2].toNat:Int) < 128:=J;by_cases hz:s[a+2].toNat = 0
       ·have HG:=I (HO.out.trans (wX (n:=n) dc am hz (by decide)));have eW:((s[a+2].toNat:Int) == 0) = true:=(by simp [hz]);have oS:(s[a+2].toNat:Int) = 0:=J;exact mK
       ·have HG:=I (HO.out.trans (x9 (n:=n) dc am (by show s[a+2].toNat < 128;omega) (λh=>hz h.1)));have eW:((s[a+2].toNat:Int) == 0) = false:=(by rw [beq_eq_false_iff_ne];omega);exact mH
      ·have ee:¬(s[a+2].toNat:Int) < 128:=J;have HG:=I (HO.out.trans (uT (n:=n) dc am (by show 128<=s[a+2].toNat;omega)));clear fZ hmul;go_wp2;exact ⟨⟨2+1,n+s[a+2].toNat % 128 * 16384,J,N',ve,N',MO.out,mu,HG.out⟩,by simp [intOf]⟩
     ·have Ic:(s[a+3].toNat:Int) < 256:=(by have:s[a+3].toNat < 256:=s[a+3].toNat_lt;omega);have Yl:0<=(s[a+3].toNat:Int):=J;replace hand:=i64_and127 (s[a+3].toNat:Int);have vB:bits .or .i64 (n:Int) ((s[a+3].toNat:Int) % 128 * 2097152) = ((n+s[a+3].toNat % 128 * 2097152:Nat):Int):=by
       have h9:=PS 21 n (s[a+3].toNat % 128 * 2097152) xP (Nat.mul_mod_left _ 2097152) ed J;exact lH
      have cS:n+s[a+3].toNat % 128 * 2097152 < 2 ^ (7 * (3+1)):=(by have:=HN.out;simp at this |-;omega);have MO:=I cS;clear cS ed;by_cases hc:s[a+3].toNat < 128
      ·have ee:(s[a+3].toNat:Int) < 128:=J;by_cases hz:s[a+3].toNat = 0
       ·have HG:=I (HO.out.trans (wX (n:=n) dc am hz (by decide)));have eW:((s[a+3].toNat:Int) == 0) = true:=(by simp [hz]);have oS:(s[a+3].toNat:Int) = 0:=J;exact mK
       ·have HG:=I (HO.out.trans (x9 (n:=n) dc am (by show s[a+3].toNat < 128;omega) (λh=>hz h.1)));have eW:((s[a+3].toNat:Int) == 0) = false:=(by rw [beq_eq_false_iff_ne];omega);exact mH
      ·have ee:¬(s[a+3].toNat:Int) < 128:=J;have HG:=I (HO.out.trans (uT (n:=n) dc am (by show 128<=s[a+3].toNat;omega)));clear fZ hmul;go_wp2;exact ⟨⟨3+1,n+s[a+3].toNat % 128 * 2097152,J,N',ve,N',MO.out,mu,HG.out⟩,by simp [intOf]⟩
     ·have Ic:(s[a+4].toNat:Int) < 256:=(by have:s[a+4].toNat < 256:=s[a+4].toNat_lt;omega);have Yl:0<=(s[a+4].toNat:Int):=J;replace hand:=i64_and127 (s[a+4].toNat:Int);have vB:bits .or .i64 (n:Int) ((s[a+4].toNat:Int) % 128 * 268435456) = ((n+s[a+4].toNat % 128 * 268435456:Nat):Int):=by
       have h9:=PS 28 n (s[a+4].toNat % 128 * 268435456) xP (Nat.mul_mod_left _ 268435456) ed J;exact lH
      have cS:n+s[a+4].toNat % 128 * 268435456 < 2 ^ (7 * (4+1)):=(by have:=HN.out;simp at this |-;omega);have MO:=I cS;clear cS ed;by_cases hc:s[a+4].toNat < 128
      ·have ee:(s[a+4].toNat:Int) < 128:=J;by_cases hz:s[a+4].toNat = 0
       ·have HG:=I (HO.out.trans (wX (n:=n) dc am hz (by decide)));have eW:((s[a+4].toNat:Int) == 0) = true:=(by simp [hz]);have oS:(s[a+4].toNat:Int) = 0:=J;exact mK
       ·have HG:=I (HO.out.trans (x9 (n:=n) dc am (by show s[a+4].toNat < 128;omega) (λh=>hz h.1)));have eW:((s[a+4].toNat:Int) == 0) = false:=(by rw [beq_eq_false_iff_ne];omega);exact mH
      ·have ee:¬(s[a+4].toNat:Int) < 128:=J;have HG:=I (HO.out.trans (uT (n:=n) dc am (by show 128<=s[a+4].toNat;omega)));clear fZ hmul;go_wp2;exact ⟨⟨4+1,n+s[a+4].toNat % 128 * 268435456,J,N',ve,N',MO.out,mu,HG.out⟩,by simp [intOf]⟩
     ·have Ic:(s[a+5].toNat:Int) < 256:=(by have:s[a+5].toNat < 256:=s[a+5].toNat_lt;omega);have Yl:0<=(s[a+5].toNat:Int):=J;replace hand:=i64_and127 (s[a+5].toNat:Int);have vB:bits .or .i64 (n:Int) ((s[a+5].toNat:Int) % 128 * 34359738368) = ((n+s[a+5].toNat % 128 * 34359738368:Nat):Int):=by
       have h9:=PS 35 n (s[a+5].toNat % 128 * 34359738368) xP (Nat.mul_mod_left _ 34359738368) ed J;exact lH
      have cS:n+s[a+5].toNat % 128 * 34359738368 < 2 ^ (7 * (5+1)):=(by have:=HN.out;simp at this |-;omega);have MO:=I cS;clear cS ed;by_cases hc:s[a+5].toNat < 128
      ·have ee:(s[a+5].toNat:Int) < 128:=J;by_cases hz:s[a+5].toNat = 0
       ·have HG:=I (HO.out.trans (wX (n:=n) dc am hz (by decide)));have eW:((s[a+5].toNat:Int) == 0) = true:=(by simp [hz]);have oS:(s[a+5].toNat:Int) = 0:=J;exact mK
       ·have HG:=I (HO.out.trans (x9 (n:=n) dc am (by show s[a+5].toNat < 128;omega) (λh=>hz h.1)));have eW:((s[a+5].toNat:Int) == 0) = false:=(by rw [beq_eq_false_iff_ne];omega);exact mH
      ·have ee:¬(s[a+5].toNat:Int) < 128:=J;have HG:=I (HO.out.trans (uT (n:=n) dc am (by show 128<=s[a+5].toNat;omega)));clear fZ hmul;go_wp2;exact ⟨⟨5+1,n+s[a+5].toNat % 128 * 34359738368,J,N',ve,N',MO.out,mu,HG.out⟩,by simp [intOf]⟩
     ·have Ic:(s[a+6].toNat:Int) < 256:=(by have:s[a+6].toNat < 256:=s[a+6].toNat_lt;omega);have Yl:0<=(s[a+6].toNat:Int):=J;replace hand:=i64_and127 (s[a+6].toNat:Int);have vB:bits .or .i64 (n:Int) ((s[a+6].toNat:Int) % 128 * 4398046511104) = ((n+s[a+6].toNat % 128 * 4398046511104:Nat):Int):=by
       have h9:=PS 42 n (s[a+6].toNat % 128 * 4398046511104) xP (Nat.mul_mod_left _ 4398046511104) ed J;exact lH
      have cS:n+s[a+6].toNat % 128 * 4398046511104 < 2 ^ (7 * (6+1)):=(by have:=HN.out;simp at this |-;omega);have MO:=I cS;clear cS ed;by_cases hc:s[a+6].toNat < 128
      ·have ee:(s[a+6].toNat:Int) < 128:=J;by_cases hz:s[a+6].toNat = 0
       ·have HG:=I (HO.out.trans (wX (n:=n) dc am hz (by decide)));have eW:((s[a+6].toNat:Int) == 0) = true:=(by simp [hz]);have oS:(s[a+6].toNat:Int) = 0:=J;exact mK
       ·have HG:=I (HO.out.trans (x9 (n:=n) dc am (by show s[a+6].toNat < 128;omega) (λh=>hz h.1)));have eW:((s[a+6].toNat:Int) == 0) = false:=(by rw [beq_eq_false_iff_ne];omega);exact mH
      ·have ee:¬(s[a+6].toNat:Int) < 128:=J;have HG:=I (HO.out.trans (uT (n:=n) dc am (by show 128<=s[a+6].toNat;omega)));clear fZ hmul;go_wp2;exact ⟨⟨6+1,n+s[a+6].toNat % 128 * 4398046511104,J,N',ve,N',MO.out,mu,HG.out⟩,by simp [intOf]⟩
     ·have Ic:(s[a+7].toNat:Int) < 256:=(by have:s[a+7].toNat < 256:=s[a+7].toNat_lt;omega);have Yl:0<=(s[a+7].toNat:Int):=J;replace hand:=i64_and127 (s[a+7].toNat:Int);have vB:bits .or .i64 (n:Int) ((s[a+7].toNat:Int) % 128 * 562949953421312) = ((n+s[a+7].toNat % 128 * 562949953421312:Nat):Int):=by
       have h9:=PS 49 n (s[a+7].toNat % 128 * 562949953421312) xP (Nat.mul_mod_left _ 562949953421312) ed J;exact lH
      have cS:n+s[a+7].toNat % 128 * 562949953421312 < 2 ^ (7 * (7+1)):=(by have:=HN.out;simp at this |-;omega);have MO:=I cS;clear cS ed;by_cases hc:s[a+7].toNat < 128
      ·have ee:(s[a+7].toNat:Int) < 128:=J;by_cases hz:s[a+7].toNat = 0
       ·have HG:=I (HO.out.trans (wX (n:=n) dc am hz (by decide)));have eW:((s[a+7].toNat:Int) == 0) = true:=(by simp [hz]);have oS:(s[a+7].toNat:Int) = 0:=J;exact mK
       ·have HG:=I (HO.out.trans (x9 (n:=n) dc am (by show s[a+7].toNat < 128;omega) (λh=>hz h.1)));have eW:((s[a+7].toNat:Int) == 0) = false:=(by rw [beq_eq_false_iff_ne];omega);exact mH
      ·have ee:¬(s[a+7].toNat:Int) < 128:=J;have HG:=I (HO.out.trans (uT (n:=n) dc am (by show 128<=s[a+7].toNat;omega)));clear fZ hmul;go_wp2;exact ⟨⟨7+1,n+s[a+7].toNat % 128 * 562949953421312,J,N',ve,N',MO.out,mu,HG.out⟩,by simp [intOf]⟩
     ·have Ic:(s[a+8].toNat:Int) < 256:=(by have:s[a+8].toNat < 256:=s[a+8].toNat_lt;omega);have Yl:0<=(s[a+8].toNat:Int):=J;replace hand:=i64_and127 (s[a+8].toNat:Int);have vB:bits .or .i64 (n:Int) ((s[a+8].toNat:Int) % 128 * 72057594037927936) = ((n+s[a+8].toNat % 128 * 72057594037927936:Nat):Int):=by
       have h9:=PS 56 n (s[a+8].toNat % 128 * 72057594037927936) xP (Nat.mul_mod_left _ 72057594037927936) ed J;exact lH
      have cS:n+s[a+8].toNat % 128 * 72057594037927936 < 2 ^ (7 * (8+1)):=(by have:=HN.out;simp at this |-;omega);have MO:=I cS;clear cS ed;by_cases hc:s[a+8].toNat < 128
      ·have ee:(s[a+8].toNat:Int) < 128:=J;by_cases hz:s[a+8].toNat = 0
       ·have HG:=I (HO.out.trans (wX (n:=n) dc am hz (by decide)));have eW:((s[a+8].toNat:Int) == 0) = true:=(by simp [hz]);have oS:(s[a+8].toNat:Int) = 0:=J;exact mK
       ·have HG:=I (HO.out.trans (x9 (n:=n) dc am (by show s[a+8].toNat < 128;omega) (λh=>hz h.1)));have eW:((s[a+8].toNat:Int) == 0) = false:=(by rw [beq_eq_false_iff_ne];omega);exact mH
      ·have ee:¬(s[a+8].toNat:Int) < 128:=J;have HG:=I (HO.out.trans (uT (n:=n) dc am (by show 128<=s[a+8].toNat;omega)));clear fZ hmul;go_wp2;exact ⟨⟨8+1,n+s[a+8].toNat % 128 * 72057594037927936,J,N',ve,N',MO.out,mu,HG.out⟩,by simp [intOf]⟩
    ·have HG:=I (HO.out.trans (UH (λh=>am h.2)));have GA:¬((a+k:Nat):Int) < s.size:=J;exact C0
   ·have HG:=I (HO.out.trans (UH (λh=>dc h.1)));have aav:¬(k:Int) < 9:=J;exact C0
end Go.Proofs.YtjahcnjmjahbaaaGreat
