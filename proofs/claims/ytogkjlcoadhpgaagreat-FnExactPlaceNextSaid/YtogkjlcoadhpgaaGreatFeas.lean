/- Feasible, of the program and of the reference. No condition. -/
import Derived.Test.YtogkjlcoadhpgaaGreatFits
import Derived.Test.YtogkjlcoadhpgaaGreatAppendAt
namespace Go.Proofs.YtogkjlcoadhpgaaGreat
open Go.ChangeShapes Go.WideShapes Go.ChangeAt Go.RowKit
set_option linter.unusedVariables false
set_option linter.unusedSimpArgs false
def al8 (x:aU) (p:nI) (h:Host):Bool:=oH h.name x p == 0
def Ar (x:aU) (p:nI) (hs:List Host):List ByteArray:=(hs.filter (al8 x p)).map Host.name
theorem YM {x:aU} {p:nI} {hs:List Host} {k:Nat} (h:k < hs.length) (hp:al8 x p hs[k] = true):Ar x p (hs.take (k+1)) = Ar x p (hs.take k)++[hs[k].name]:=by
 unfold Ar;rw [List.take_succ_eq_append_getElem h,List.filter_append,List.map_append];simp [hp]
theorem abE {x:aU} {p:nI} {hs:List Host} {k:Nat} (h:k < hs.length) (hp:al8 x p hs[k] = false):Ar x p (hs.take (k+1)) = Ar x p (hs.take k):=by
 unfold Ar;rw [List.take_succ_eq_append_getElem h,List.filter_append,List.map_append];simp [hp]
theorem LY (x:aU) (p:nI) (hs:List Host):(Ar x p hs).length≤hs.length:=by unfold Ar;rw [List.length_map];exact List.length_filter_le _ _
theorem afG (x:aU) (p:nI) (hs:List Host) (k:Nat):(Ar x p (hs.take k)).length≤k:=Nat.le_trans (LY _ _ _) avI
theorem aY.strw {w:World} {B:Nat} {xs:List ByteArray} {ds:List Value} {s:ByteArray} (h:aY w B xs ds []) (hs:(s.size:Int)≤9223372036854775807):aY w B (xs++[s]) (ds++[.string s]) [] :=
 ⟨h.rd.append (.single (rdStr w s hs)),List.nodup_nil,(fun b hb=>by cases hb),(fun b hb=>by cases hb)⟩
set_option maxRecDepth 100000 in
set_option maxHeartbeats 4000000 in
theorem Zu (x:aU) (p:nI) (cs ps:List Value) (F G:List Nat) (w:World) (h:rd w x cs F) (h':rd w p ps G) (hw:(x.wt:Int)≤1048576) (hw':(p.wt:Int)≤1048576) :
 Calls Tryz.prog 142 #[.agg cs.toArray,.agg ps.toArray] w fun e w'=>∃A c G,e = .returned (.slice A (Ar x p x.hosts).length c)∧Own w' w.heap.size (Ar x p x.hosts) [.slice A (Ar x p x.hosts).length c] G∧Below w.heap.size w w':=by
 have hwx:x.wt = kL Host.wt x.hosts+kL Placed.wt x.au:=rfl
 have hlen:(x.hosts.length:Int)≤1048576:=by have:=gJ Host.wt x.hosts;omega
 have HW:=Lib.hid hw
 have Uc:=Lib.hid hw'
 clear hw hw' hwx
 have hr:=h
 have hr':=h'
 obtain ⟨bG,bD,fQ,dn,bW,jg,hck,hF,bQ,dM,hnext,aV,aP,aW⟩:=aO hr
 obtain ⟨bY,bZ,iq,eU,eX,jV,bg,bn,dK,jU,hG,jW,dA,kQ,lg,lG,iO,bK⟩:=dL hr'
 subst hck jU
 clear hF hG hr hr'
 go_enter Tryz.func142,Tryz.ntmps142
 go_wp2_with fail
 obtain ⟨w0,hw0⟩:∃w0,(w.alloc (.cells #[.slice bG x.hosts.length bD,.slice dn x.au.length bW,.int .i64 x.next,.int .i64 x.weights.pack,.int .i64 x.weights.spread,.int .i64 x.weights.soft] 33)).alloc (.cells #[.string p.name,.slice bY p.labels.length bZ,.int .i64 p.cpu,.int .i64 p.mem,.int .i64 p.rank,.slice eU p.needs.length eX,.slice bg p.tolerances.length bn] 76) = w0:=⟨_,rfl⟩
 try rw [hw0]
 have c0:w0.cell? ⟨w.heap.size,0,none⟩ = some (.slice bG x.hosts.length bD):=by rw [← hw0,World.cell?_of_block (heap_alloc_old _ _ (by simp)),cell_of_row _ _ _ _ _ _ (heap_alloc_new w _)];rfl
 have c1:w0.cell? ⟨w.heap.size,1,none⟩ = some (.slice dn x.au.length bW):=by rw [← hw0,World.cell?_of_block (heap_alloc_old _ _ (by simp)),cell_of_row _ _ _ _ _ _ (heap_alloc_new w _)];rfl
 have c2:w0.cell? ⟨w.heap.size,2,none⟩ = some (.int .i64 x.next):=by rw [← hw0,World.cell?_of_block (heap_alloc_old _ _ (by simp)),cell_of_row _ _ _ _ _ _ (heap_alloc_new w _)];rfl
 have c3:w0.cell? ⟨w.heap.size,3,none⟩ = some (.int .i64 x.weights.pack):=by rw [← hw0,World.cell?_of_block (heap_alloc_old _ _ (by simp)),cell_of_row _ _ _ _ _ _ (heap_alloc_new w _)];rfl
 have c4:w0.cell? ⟨w.heap.size,4,none⟩ = some (.int .i64 x.weights.spread):=by rw [← hw0,World.cell?_of_block (heap_alloc_old _ _ (by simp)),cell_of_row _ _ _ _ _ _ (heap_alloc_new w _)];rfl
 have c5:w0.cell? ⟨w.heap.size,5,none⟩ = some (.int .i64 x.weights.soft):=by rw [← hw0,World.cell?_of_block (heap_alloc_old _ _ (by simp)),cell_of_row _ _ _ _ _ _ (heap_alloc_new w _)];rfl
 have d0:w0.cell? ⟨w.heap.size+1,0,none⟩ = some (.string p.name):=by rw [← hw0];simp
 have d1:w0.cell? ⟨w.heap.size+1,1,none⟩ = some (.slice bY p.labels.length bZ):=by rw [← hw0];simp
 have d2:w0.cell? ⟨w.heap.size+1,2,none⟩ = some (.int .i64 p.cpu):=by rw [← hw0];simp
 have d3:w0.cell? ⟨w.heap.size+1,3,none⟩ = some (.int .i64 p.mem):=by rw [← hw0];simp
 have d4:w0.cell? ⟨w.heap.size+1,4,none⟩ = some (.int .i64 p.rank):=by rw [← hw0];simp
 have d5:w0.cell? ⟨w.heap.size+1,5,none⟩ = some (.slice eU p.needs.length eX):=by rw [← hw0];simp
 have d6:w0.cell? ⟨w.heap.size+1,6,none⟩ = some (.slice bg p.tolerances.length bn):=by rw [← hw0];simp
 have hB0:Below w.heap.size w w0:=by rw [← hw0];exact ak (ak (aj _) _) _
 have hs0:w0.heap.size = w.heap.size+1+1:=by rw [← hw0];simp
 have hz0:w.heap.size < w0.heap.size:=by omega
 have hz1:w.heap.size+1 < w0.heap.size:=by omega
 have HS0:=Lib.hid hs0
 clear hw0 hs0
 go_loopw [5,12] (fun v i wr=>∃(k:Nat) (ds:List Value),k≤x.hosts.length∧i = .int .i64 k∧wr.ownsRow w0.heap.size 9 1 v (Ar x p (x.hosts.take k)).length ds∧aY w w0.heap.size (Ar x p (x.hosts.take k)) ds []∧Below w0.heap.size w0 wr) (fun _ i _=>x.hosts.length - (intOf i).toNat)
 case atStart =>
  exact Zadl
 case round =>
  obtain ⟨k,ds,hk,rfl,hown,hcs,hbl⟩:=hrel
  by_cases hlt:k < x.hosts.length
  ·obtain ⟨b,o,ck,Fk,rfl,o9,hbs,hr,hsub,hc⟩:=Sl.get (α:=Host) (A:=bG) (c:=bD) bQ hlt
   obtain ⟨jM,jO,sN,jE,jF,sO,hck,su,zM,qY,Gt,Gw,xg,qA⟩:=iy hr
   subst hck
   have q0:w.cell? ⟨b,o+k * 6,none⟩ = some (.string x.hosts[k].name):=by exact hc 0 _ rfl
   have q1:w.cell? ⟨b,o+k * 6+1,none⟩ = some (.slice jM x.hosts[k].labels.length jO):=by rw [Nat.add_assoc];exact hc 1 _ rfl
   have q2:w.cell? ⟨b,o+k * 6+2,none⟩ = some (.int .i64 x.hosts[k].cpu):=by rw [Nat.add_assoc];exact hc 2 _ rfl
   have q3:w.cell? ⟨b,o+k * 6+3,none⟩ = some (.int .i64 x.hosts[k].mem):=by rw [Nat.add_assoc];exact hc 3 _ rfl
   have q4:w.cell? ⟨b,o+k * 6+4,none⟩ = some (.int .i64 x.hosts[k].slots):=by rw [Nat.add_assoc];exact hc 4 _ rfl
   have q5:w.cell? ⟨b,o+k * 6+5,none⟩ = some (.slice jE x.hosts[k].aT.length jF):=by rw [Nat.add_assoc];exact hc 5 _ rfl
   clear hc
   have hBr:Below w.heap.size w wr:=ah hB0 (hbl.mono (by omega))
   replace q0:=((ay hBr).1 b _ hbs).trans q0
   replace q1:=((ay hBr).1 b _ hbs).trans q1
   replace q2:=((ay hBr).1 b _ hbs).trans q2
   replace q3:=((ay hBr).1 b _ hbs).trans q3
   replace q4:=((ay hBr).1 b _ hbs).trans q4
   replace q5:=((ay hBr).1 b _ hbs).trans q5
   have WU:b < wr.heap.size:=by have:=hBr.size;omega
   have hK:=(ay hbl).1
   replace c0:=(hK _ _ hz0).trans c0
   replace c1:=(hK _ _ hz0).trans c1
   replace c2:=(hK _ _ hz0).trans c2
   replace c3:=(hK _ _ hz0).trans c3
   replace c4:=(hK _ _ hz0).trans c4
   replace c5:=(hK _ _ hz0).trans c5
   replace d0:=(hK _ _ hz1).trans d0
   replace d1:=(hK _ _ hz1).trans d1
   replace d2:=(hK _ _ hz1).trans d2
   replace d3:=(hK _ _ hz1).trans d3
   replace d4:=(hK _ _ hz1).trans d4
   replace d5:=(hK _ _ hz1).trans d5
   replace d6:=(hK _ _ hz1).trans d6
   clear hK
   have tX:w.heap.size < wr.heap.size:=by have:=hbl.size;omega
   have hz1r:w.heap.size+1 < wr.heap.size:=by have:=hbl.size;omega
   have hol:(Ar x p (x.hosts.take k)).length≤k:=afG x p x.hosts k
   cases hp:al8 x p x.hosts[k] with
   | true =>
     have HP:=Lib.hid hp
     have HPR:=Lib.hid (show (oH x.hosts[k].name x p == 0) = true from hp)
     clear hp
     go_wp2_with fail
     first
      | (refine (N9 x p _ _ _ _ x.hosts[k].name _ (aJ h auS) (aJ h' auS) HW.out Uc.out).mono ?_
         rw [HPR.out]
         rintro e wn ⟨rfl,hn⟩)
      | (refine aF _ (by kernel_rfl) (by kernel_rfl) (aj _) ?_
         repeat (first
          | (apply aG
             case hw=>rfl
             simp only [Act.put,pz])
          | (apply aH
             case hw=>rfl
             case h =>
              exact Zabz
             simp only [Act.put,pz]))
         refine aN ?_
         intro wn hn
         replace hn:=hn.out)
     obtain ⟨hcn,hfn⟩:=ay hn
     first
      | have hzn:wr.heap.size < wn.heap.size:=(sq hn.size)
      | have hzn:wr.heap.size≤wn.heap.size:=(sq hn.size)
     have hbn:Below w0.heap.size w0 wn:=by first | exact ah hbl hn | exact ah (ak hbl _) hn
     first | have zq:=mG hown hn | have zq:=mG (hown.alloc _) hn
     go_wp2_with (
      at_builtin
      go_must (refine lC qw (by rfl) _ _ (by rfl) _ _ _ _ _ zq (by rfl) [.string x.hosts[k].name] aue (by rfl) aub (by omega) (by omega) awN ?_)
      intro v2 w2 hown2 hg2 hz2)
     exact Zacv
   | false =>
     have HP:=Lib.hid hp
     have HPR:=Lib.hid (show (oH x.hosts[k].name x p == 0) = false from hp)
     clear hp
     go_wp2_with fail
     first
      | (refine (N9 x p _ _ _ _ x.hosts[k].name _ (aJ h auS) (aJ h' auS) HW.out Uc.out).mono ?_
         rw [HPR.out]
         rintro e wn ⟨rfl,hn⟩)
      | (refine aF _ (by kernel_rfl) (by kernel_rfl) (aj _) ?_
         repeat (first
          | (apply aG
             case hw=>rfl
             simp only [Act.put,pz])
          | (apply aH
             case hw=>rfl
             case h =>
              exact Zabz
             simp only [Act.put,pz]))
         refine aN ?_
         intro wn hn
         replace hn:=hn.out)
     exact Zab3
  ·exact Zabj
set_option maxRecDepth 100000 in
set_option maxHeartbeats 4000000 in
theorem Zv (x:aU) (p:nI) (cs ps:List Value) (F G:List Nat) (w:World) (h:rd w x cs F) (h':rd w p ps G) (hw:(x.wt:Int)≤1048576) (hw':(p.wt:Int)≤1048576) :
 Calls Tryz.prog 121 #[.agg cs.toArray,.agg ps.toArray] w fun e w'=>∃A c G,e = .returned (.slice A (Ar x p x.hosts).length c)∧Own w' w.heap.size (Ar x p x.hosts) [.slice A (Ar x p x.hosts).length c] G∧Below w.heap.size w w':=by
 have hwx:x.wt = kL Host.wt x.hosts+kL Placed.wt x.au:=rfl
 have hlen:(x.hosts.length:Int)≤1048576:=by have:=gJ Host.wt x.hosts;omega
 have HW:=Lib.hid hw
 have Uc:=Lib.hid hw'
 clear hw hw' hwx
 have hr:=h
 have hr':=h'
 obtain ⟨bG,bD,fQ,dn,bW,jg,hck,hF,bQ,dM,hnext,aV,aP,aW⟩:=aO hr
 obtain ⟨bY,bZ,iq,eU,eX,jV,bg,bn,dK,jU,hG,jW,dA,kQ,lg,lG,iO,bK⟩:=dL hr'
 subst hck jU
 clear hF hG hr hr'
 go_enter Tryz.func121,Tryz.ntmps121
 go_wp2_with fail
 obtain ⟨w0,hw0⟩:∃w0,(w.alloc (.cells #[.slice bG x.hosts.length bD,.slice dn x.au.length bW,.int .i64 x.next,.int .i64 x.weights.pack,.int .i64 x.weights.spread,.int .i64 x.weights.soft] 33)).alloc (.cells #[.string p.name,.slice bY p.labels.length bZ,.int .i64 p.cpu,.int .i64 p.mem,.int .i64 p.rank,.slice eU p.needs.length eX,.slice bg p.tolerances.length bn] 76) = w0:=⟨_,rfl⟩
 try rw [hw0]
 have c0:w0.cell? ⟨w.heap.size,0,none⟩ = some (.slice bG x.hosts.length bD):=by rw [← hw0,World.cell?_of_block (heap_alloc_old _ _ (by simp)),cell_of_row _ _ _ _ _ _ (heap_alloc_new w _)];rfl
 have c1:w0.cell? ⟨w.heap.size,1,none⟩ = some (.slice dn x.au.length bW):=by rw [← hw0,World.cell?_of_block (heap_alloc_old _ _ (by simp)),cell_of_row _ _ _ _ _ _ (heap_alloc_new w _)];rfl
 have c2:w0.cell? ⟨w.heap.size,2,none⟩ = some (.int .i64 x.next):=by rw [← hw0,World.cell?_of_block (heap_alloc_old _ _ (by simp)),cell_of_row _ _ _ _ _ _ (heap_alloc_new w _)];rfl
 have c3:w0.cell? ⟨w.heap.size,3,none⟩ = some (.int .i64 x.weights.pack):=by rw [← hw0,World.cell?_of_block (heap_alloc_old _ _ (by simp)),cell_of_row _ _ _ _ _ _ (heap_alloc_new w _)];rfl
 have c4:w0.cell? ⟨w.heap.size,4,none⟩ = some (.int .i64 x.weights.spread):=by rw [← hw0,World.cell?_of_block (heap_alloc_old _ _ (by simp)),cell_of_row _ _ _ _ _ _ (heap_alloc_new w _)];rfl
 have c5:w0.cell? ⟨w.heap.size,5,none⟩ = some (.int .i64 x.weights.soft):=by rw [← hw0,World.cell?_of_block (heap_alloc_old _ _ (by simp)),cell_of_row _ _ _ _ _ _ (heap_alloc_new w _)];rfl
 have d0:w0.cell? ⟨w.heap.size+1,0,none⟩ = some (.string p.name):=by rw [← hw0];simp
 have d1:w0.cell? ⟨w.heap.size+1,1,none⟩ = some (.slice bY p.labels.length bZ):=by rw [← hw0];simp
 have d2:w0.cell? ⟨w.heap.size+1,2,none⟩ = some (.int .i64 p.cpu):=by rw [← hw0];simp
 have d3:w0.cell? ⟨w.heap.size+1,3,none⟩ = some (.int .i64 p.mem):=by rw [← hw0];simp
 have d4:w0.cell? ⟨w.heap.size+1,4,none⟩ = some (.int .i64 p.rank):=by rw [← hw0];simp
 have d5:w0.cell? ⟨w.heap.size+1,5,none⟩ = some (.slice eU p.needs.length eX):=by rw [← hw0];simp
 have d6:w0.cell? ⟨w.heap.size+1,6,none⟩ = some (.slice bg p.tolerances.length bn):=by rw [← hw0];simp
 have hB0:Below w.heap.size w w0:=by rw [← hw0];exact ak (ak (aj _) _) _
 have hs0:w0.heap.size = w.heap.size+1+1:=by rw [← hw0];simp
 have hz0:w.heap.size < w0.heap.size:=by omega
 have hz1:w.heap.size+1 < w0.heap.size:=by omega
 have HS0:=Lib.hid hs0
 clear hw0 hs0
 go_loopw [5,6] (fun v i wr=>∃(k:Nat) (ds:List Value),k≤x.hosts.length∧i = .int .i64 k∧wr.ownsRow w0.heap.size 9 1 v (Ar x p (x.hosts.take k)).length ds∧aY w w0.heap.size (Ar x p (x.hosts.take k)) ds []∧Below w0.heap.size w0 wr) (fun _ i _=>x.hosts.length - (intOf i).toNat)
 case atStart =>
  exact Zadl
 case round =>
  obtain ⟨k,ds,hk,rfl,hown,hcs,hbl⟩:=hrel
  by_cases hlt:k < x.hosts.length
  ·obtain ⟨b,o,ck,Fk,rfl,o9,hbs,hr,hsub,hc⟩:=Sl.get (α:=Host) (A:=bG) (c:=bD) bQ hlt
   obtain ⟨jM,jO,sN,jE,jF,sO,hck,su,zM,qY,Gt,Gw,xg,qA⟩:=iy hr
   subst hck
   have q0:w.cell? ⟨b,o+k * 6,none⟩ = some (.string x.hosts[k].name):=by exact hc 0 _ rfl
   have q1:w.cell? ⟨b,o+k * 6+1,none⟩ = some (.slice jM x.hosts[k].labels.length jO):=by rw [Nat.add_assoc];exact hc 1 _ rfl
   have q2:w.cell? ⟨b,o+k * 6+2,none⟩ = some (.int .i64 x.hosts[k].cpu):=by rw [Nat.add_assoc];exact hc 2 _ rfl
   have q3:w.cell? ⟨b,o+k * 6+3,none⟩ = some (.int .i64 x.hosts[k].mem):=by rw [Nat.add_assoc];exact hc 3 _ rfl
   have q4:w.cell? ⟨b,o+k * 6+4,none⟩ = some (.int .i64 x.hosts[k].slots):=by rw [Nat.add_assoc];exact hc 4 _ rfl
   have q5:w.cell? ⟨b,o+k * 6+5,none⟩ = some (.slice jE x.hosts[k].aT.length jF):=by rw [Nat.add_assoc];exact hc 5 _ rfl
   clear hc
   have hBr:Below w.heap.size w wr:=ah hB0 (hbl.mono (by omega))
   replace q0:=((ay hBr).1 b _ hbs).trans q0
   replace q1:=((ay hBr).1 b _ hbs).trans q1
   replace q2:=((ay hBr).1 b _ hbs).trans q2
   replace q3:=((ay hBr).1 b _ hbs).trans q3
   replace q4:=((ay hBr).1 b _ hbs).trans q4
   replace q5:=((ay hBr).1 b _ hbs).trans q5
   have WU:b < wr.heap.size:=by have:=hBr.size;omega
   have hK:=(ay hbl).1
   replace c0:=(hK _ _ hz0).trans c0
   replace c1:=(hK _ _ hz0).trans c1
   replace c2:=(hK _ _ hz0).trans c2
   replace c3:=(hK _ _ hz0).trans c3
   replace c4:=(hK _ _ hz0).trans c4
   replace c5:=(hK _ _ hz0).trans c5
   replace d0:=(hK _ _ hz1).trans d0
   replace d1:=(hK _ _ hz1).trans d1
   replace d2:=(hK _ _ hz1).trans d2
   replace d3:=(hK _ _ hz1).trans d3
   replace d4:=(hK _ _ hz1).trans d4
   replace d5:=(hK _ _ hz1).trans d5
   replace d6:=(hK _ _ hz1).trans d6
   clear hK
   have tX:w.heap.size < wr.heap.size:=by have:=hbl.size;omega
   have hz1r:w.heap.size+1 < wr.heap.size:=by have:=hbl.size;omega
   have hol:(Ar x p (x.hosts.take k)).length≤k:=afG x p x.hosts k
   cases hp:al8 x p x.hosts[k] with
   | true =>
     have HP:=Lib.hid hp
     have HPR:=Lib.hid (show (oH x.hosts[k].name x p == 0) = true from hp)
     clear hp
     go_wp2_with fail
     first
      | (refine (Oa x p _ _ _ _ x.hosts[k].name _ (aJ h auS) (aJ h' auS) HW.out Uc.out).mono ?_
         rw [HPR.out]
         rintro e wn ⟨rfl,hn⟩)
      | (refine aF _ (by kernel_rfl) (by kernel_rfl) (aj _) ?_
         repeat (first
          | (apply aG
             case hw=>rfl
             simp only [Act.put,pz])
          | (apply aH
             case hw=>rfl
             case h =>
              exact Zab0
             simp only [Act.put,pz]))
         refine aN ?_
         intro wn hn
         replace hn:=hn.out)
     obtain ⟨hcn,hfn⟩:=ay hn
     first
      | have hzn:wr.heap.size < wn.heap.size:=(sq hn.size)
      | have hzn:wr.heap.size≤wn.heap.size:=(sq hn.size)
     have hbn:Below w0.heap.size w0 wn:=by first | exact ah hbl hn | exact ah (ak hbl _) hn
     first | have zq:=mG hown hn | have zq:=mG (hown.alloc _) hn
     go_wp2_with (
      at_builtin
      go_must (refine lC qw (by rfl) _ _ (by rfl) _ _ _ _ _ zq (by rfl) [.string x.hosts[k].name] aue (by rfl) aub (by omega) (by omega) awN ?_)
      intro v2 w2 hown2 hg2 hz2)
     exact Zacv
   | false =>
     have HP:=Lib.hid hp
     have HPR:=Lib.hid (show (oH x.hosts[k].name x p == 0) = false from hp)
     clear hp
     go_wp2_with fail
     first
      | (refine (Oa x p _ _ _ _ x.hosts[k].name _ (aJ h auS) (aJ h' auS) HW.out Uc.out).mono ?_
         rw [HPR.out]
         rintro e wn ⟨rfl,hn⟩)
      | (refine aF _ (by kernel_rfl) (by kernel_rfl) (aj _) ?_
         repeat (first
          | (apply aG
             case hw=>rfl
             simp only [Act.put,pz])
          | (apply aH
             case hw=>rfl
             case h =>
              exact Zab0
             simp only [Act.put,pz]))
         refine aN ?_
         intro wn hn
         replace hn:=hn.out)
     exact Zab3
  ·exact Zabj
end Go.Proofs.YtogkjlcoadhpgaaGreat
