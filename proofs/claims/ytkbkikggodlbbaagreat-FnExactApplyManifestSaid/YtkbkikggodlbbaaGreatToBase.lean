/- laws' copies. -/
import Derived.Test.YtkbkikggodlbbaaGreatOpen
import Derived.Test.YtkbkikggodlbbaaGreatSz
namespace Go.Proofs.YtkbkikggodlbbaaGreat
open Go.ChangeShapes Go.WideShapes Go.ChangeAt Go.RowKit
set_option linter.unusedVariables false
set_option linter.unusedSimpArgs false
set_option maxHeartbeats 2000000
set_option maxRecDepth 100000
section
variable {α β:Type} [Dat α] [Dat β] {w:World} {B B2:Nat} {x:α} {y:β} {c1 c2:List Value} {F1 F2:List Nat}
theorem Own.pair (h1:Own w B x c1 F1) (h2:Own w B2 y c2 F2) (hB:B≤B2) (hF:∀b∈F1,b < B2):Own w B (x,y) (c1++c2) (F1++F2):=by
 refine ⟨⟨c1,c2,F1,F2,rfl,rfl,h1.rd,h2.rd⟩,?_,?_,?_⟩
 ·rw [List.nodup_append];exact ⟨h1.nodup,h2.nodup,fun a ha b hb=>by have:=hF a ha;have:=h2.base b hb;omega⟩
 ·intro b hb;rcases List.mem_append.1 hb with hb | hb
  ·exact h1.base b hb
  ·exact Nat.le_trans hB (h2.base b hb)
 ·intro b hb;rcases List.mem_append.1 hb with hb | hb
  ·exact h1.plain b hb
  ·exact h2.plain b hb
theorem Own.up {γ:Type} {z:γ} {cs:List Value} {F:List Nat} {B':Nat} (g:γ→β) (h:Own w B' (g z) cs F) (hB:B≤B'):@Own γ (Dat.iso g) w B z cs F :=
 @Own.mk γ (Dat.iso g) w B z cs F h.rd h.nodup (fun b hb=>Nat.le_trans hB (h.base b hb)) h.plain
theorem ahD {P:Program} {fn:FuncId} {args:Array Value} {w:World} {o0 o1 o2:Obj} {R:Ending→World→Prop}
 (h:∀W:World,W.heap[w.heap.size]? = some o0→W.heap[w.heap.size+1]? = some o1→W.heap[w.heap.size+1+1]? = some o2→W.heap.size = w.heap.size+1+1+1→Below w.heap.size w W→Calls P fn args W R) :
 Calls P fn args (((w.alloc o0).alloc o1).alloc o2) R:=by
 have e0:=heap_alloc_new w o0;have e1:=heap_alloc_new (w.alloc o0) o1;have e2:=heap_alloc_new ((w.alloc o0).alloc o1) o2;have s0:(w.alloc o0).heap.size = w.heap.size+1:=by simp
 have s1:((w.alloc o0).alloc o1).heap.size = w.heap.size+1+1:=by simp
 refine h _ ?_ ?_ ?_ S' (ak (ak (ak (aj _) _) _) _)
 ·rw [Below.heap_alloc _ _ _ O',Below.heap_alloc _ _ _ O',e0]
 ·rw [Below.heap_alloc _ _ _ O'];rw [s0] at e1;exact e1
 ·rw [s1] at e2;exact e2
theorem MX {w:World} {g:Nat} {c:Array Value} {t:TypeId} (h:w.heap[g]? = some (.cells c t)):∀j,w.frozen? ⟨g,j,none⟩ = false:=fun j=>by simp [World.frozen?,h]
theorem P7 {w:World} {g:Nat} {c:Array Value} {t:TypeId} (h:w.heap[g]? = some (.cells c t)):∀j,w.cell? ⟨g,j,none⟩ = c[j]?:=fun j=>cell_of_row w g j c t (0,0) h
theorem Own.cons (h1:Go.Proofs.YtkbkikggodlbbaaGreat.Dat.rd w x c1 []) (h2:Own w B y c2 F2):Own w B (x,y) (c1++c2) F2:=by
 have:=(Own.flat (B:=B) h1).pair h2 (Nat.le_refl _) (fun b hb=>by cases hb);simpa using this
end
theorem ao2:(Tryz.prog.info? 9).map (fun i=>(i.zero,i.size,i.bytes)) = some (some (.string ⟨#[]⟩),1,16):=by kernel_rfl
theorem qw:DL Tryz.prog 130 9 (.string ⟨#[]⟩) 1 16:=⟨Tryz.underlying130,ao2,rfl,O'⟩
theorem aaf (xs:List ByteArray) (A:Option Addr) (c:Nat) (F:List Nat) (w:World) (h:Sl w xs A c F) (hl:(kL ByteArray.size xs:Int)≤1048576) :
 Calls Tryz.prog 150 #[.slice A xs.length c] w fun e w'=>∃A c F,e = .returned (.slice A xs.length c)∧Own w' w.heap.size xs [.slice A xs.length c] F∧Below w.heap.size w w':=by
 have hlen:(xs.length:Int)≤1048576:=by have:=gJ ByteArray.size xs;omega
 have HL:=I' hl;clear hl;have hmk:=run_make_full qw O' xs.length O';go_enter Tryz.func150,Tryz.ntmps150;go_wp2_with fail
 go_loopw [4] (fun i wr=>∃(k:Nat) (ds:List Value) (G:List Nat),k≤xs.length∧i = .int .i64 k∧Fill wr w.heap.size 9 xs.length ds∧Hid (ds.length = k * 1)∧aY wr (w.heap.size+1) (xs.take k) ds G∧Below w.heap.size w wr) (fun i _=>xs.length - (intOf i).toNat)
 case atStart=>exact ⟨0,[],[],Nat.zero_le _,rfl,by have:=Fill.made w 9 #[.string ⟨#[]⟩] (xs.length * 1) auF;simpa using this,by show _ = _;simp,.nil _ _,ak (aj _) _⟩
 case round =>
  obtain ⟨k,ds,G,hk,rfl,hf,hd,hO,hbl⟩:=hrel;by_cases hlt:k < xs.length
  ·obtain ⟨b,o,ck,Fk,rfl,o9,hbs,hr,hsub,hc⟩:=(h.ext hbl).get hlt;obtain ⟨rfl,rfl,hs0⟩:=hr;have q0:wr.cell? ⟨b,o+k,none⟩ = some (.string xs[k]):=(by have:=hc 0 _ rfl;simpa [Dat.size] using this);clear hc;have hwk:=rM (f:=ByteArray.size) hlt;have PU:(ByteArray.size xs[k]:Int)≤1048576:=(by have:=HL.out;omega);clear hwk;have hf2:=hf;obtain ⟨u0,hu0⟩:=hf2.cell (i:=k) O';have aeV:=hf2.frozen (k);go_wp2_with fail
   have hF:=(hf2.gU (o:=k) auz O' (.string xs[k]));have hO3:=hO;replace hO3:=hO3.setCell (p:=⟨w.heap.size,k,none⟩) (Nat.lt_succ_self _) (.string xs[k]);have hP:=hO3.push (B':=wr.heap.size) (x:=xs[k]) (.flat ⟨rfl,rfl,hs0⟩) hf.lt hO.lt;rw [← List.take_succ_eq_append_getElem hlt] at hP
   (try simp only [List.append_assoc,List.cons_append,List.nil_append] at hF)
   exact ⟨⟨k+1,_,_,O',N',hF,by show _ = _;(simp [hd.out]) <;> omega,hP,aC (hbl) (Nat.le_refl _) _⟩,by simp [intOf];omega⟩
  ·exact Zabt
theorem asG:(Tryz.prog.info? 158).map (fun i=>(i.zero,i.size,i.bytes)) = some (some (.agg #[.string ⟨#[]⟩,.int .i64 0,.slice none 0 0]),3,48):=by kernel_rfl
theorem elNeed:DL Tryz.prog 49 158 (.agg #[.string ⟨#[]⟩,.int .i64 0,.slice none 0 0]) 3 48:=⟨Tryz.underlying49,asG,rfl,O'⟩
theorem ao3 (x:Need) (cs:List Value) (F:List Nat) (w:World) (h:rd w x cs F) (hw:(x.wt:Int)≤1048576) :
 Calls Tryz.prog 107 #[.agg cs.toArray] w fun e w'=>∃cs F,e = .returned (.agg cs.toArray)∧Own w' w.heap.size x cs F∧Below w.heap.size w w':=by
 have HW:=I' hw;clear hw;obtain ⟨_,_,_,_,rfl,rfl,⟨rfl,rfl,hkey⟩,_,_,_,_,rfl,rfl,⟨rfl,rfl,hop⟩,kV⟩:=h;obtain ⟨jy,ji,rfl,kV⟩:=jB kV;replace hkey:=rV (s:=x.key) hkey;replace hop:I64 x.op:=hop;replace kV:Sl _ x.values jy ji _:=kV;simp only [List.cons_append,List.nil_append];go_enter Tryz.func107,Tryz.ntmps107;go_wp2_with (first | (go_at_call 150;refine (aaf x.values _ _ _ _ (kV.ext auC) (by have:=HW.out;unfold Need.wt at this;unfold wtS at this;omega)).mono ?_;rintro e w2 ⟨B2,d2,G2,rfl,hO2,hb2⟩;obtain ⟨hc2,hf2⟩:=ay hb2;have al0:w.heap.size < w2.heap.size:=(sq hb2.size);have hz21:w.heap.size+1 < w2.heap.size:=(sq hb2.size);have hz22:w.heap.size+1+1 < w2.heap.size:=(sq hb2.size);replace hO2:=hO2.mono (B':=w.heap.size+1+1+1) auO))
 refine bodyPost_ret (v:=.agg #[.string x.key,.int .i64 x.op,.slice B2 x.values.length d2]) (by simp [results,Tryz.results107,go_sem, *]) rfl ⟨[.string x.key,.int .i64 x.op,.slice B2 x.values.length d2],G2,rfl,?_,by repeat (first | with_reducible exact aj _ | with_reducible assumption | with_reducible refine ak ?_ _ | with_reducible refine aC ?_ atY _ | with_reducible refine ah ?_ Y')⟩;refine Own.up (B':=w.heap.size+1+1+1) (fun x:Need=>(x.key,x.op,x.values)) ?_ O';refine Own.cons (c1:=[.string x.key]) (rdStr _ x.key hkey) ?_;refine Own.cons (c1:=[.int .i64 x.op]) (jL _ x.op hop) ?_;exact (by repeat (first | with_reducible exact hO2 | with_reducible refine Own.setCell ?_ auD _ | with_reducible refine Own.ext ?_ Y' | with_reducible refine Own.alloc ?_ _))
theorem anh (xs:List Need) (A:Option Addr) (c:Nat) (F:List Nat) (w:World) (h:Sl w xs A c F) (hl:(kL Need.wt xs:Int)≤1048576) :
 Calls Tryz.prog 61 #[.slice A xs.length c] w fun e w'=>∃A c F,e = .returned (.slice A xs.length c)∧Own w' w.heap.size xs [.slice A xs.length c] F∧Below w.heap.size w w':=by
 have hlen:(xs.length:Int)≤1048576:=by have:=gJ Need.wt xs;omega
 have HL:=I' hl;clear hl;have hmk:=run_make_full elNeed O' xs.length O';go_enter Tryz.func61,Tryz.ntmps61;go_wp2_with fail
 go_loopw [4] (fun i wr=>∃(k:Nat) (ds:List Value) (G:List Nat),k≤xs.length∧i = .int .i64 k∧Fill wr w.heap.size 158 (xs.length * 3) ds∧Hid (ds.length = k * 3)∧aY wr (w.heap.size+1) (xs.take k) ds G∧Below w.heap.size w wr) (fun i _=>xs.length - (intOf i).toNat)
 case atStart=>exact ⟨0,[],[],Nat.zero_le _,rfl,Fill.made w _ _ _ auF,by show _ = _;simp,.nil _ _,ak (aj _) _⟩
 case round =>
  obtain ⟨k,ds,G,hk,rfl,hf,hd,hO,hbl⟩:=hrel;by_cases hlt:k < xs.length
  ·obtain ⟨b,o,ck,Fk,rfl,o9,hbs,hr,hsub,hc⟩:=(h.ext hbl).get hlt;obtain ⟨pX,pY,KG,hck,rfl,xO,hop1,wO⟩:=og hr;subst hck;have q0:wr.cell? ⟨b,o+k * 3,none⟩ = some (.string xs[k].key):=(by exact hc 0 _ rfl);have q1:wr.cell? ⟨b,o+k * 3+1,none⟩ = some (.int .i64 xs[k].op):=(by rw [Nat.add_assoc];exact hc 1 _ rfl);have q2:wr.cell? ⟨b,o+k * 3+2,none⟩ = some (.slice pX xs[k].values.length pY):=(by rw [Nat.add_assoc];exact hc 2 _ rfl);clear hc;have hwk:=rM (f:=Need.wt) hlt;have PU:(Need.wt xs[k]:Int)≤1048576:=(by have:=HL.out;omega);clear hwk
   go_wp2_with (go_at_call 107;refine (ao3 xs[k] _ _ _ hr PU).mono ?_;rintro e w2 ⟨cs2,G2,rfl,hO2,hb2⟩
                have hR2:=hO2.rd;obtain ⟨qO,qP,KL,hck,hG2,vC,hop2,zS⟩:=og hR2;subst hck;have hf2:=hf.keep (hb2.block _ hf.lt);obtain ⟨u0,hu0⟩:=hf2.cell (i:=k * 3) O';have aeV:=hf2.frozen (k * 3);obtain ⟨u1,hu1⟩:=hf2.cell (i:=k * 3+1) O';have hfz1:=hf2.frozen (k * 3+1)
                obtain ⟨u2,hu2⟩:=hf2.cell (i:=k * 3+2) O';have aix:=hf2.frozen (k * 3+2))
   have hF:=(((hf2.gU (o:=k * 3) auz O' (.string xs[k].key)).gU (o:=k * 3+1) at7 O' (.int .i64 xs[k].op)).gU (o:=k * 3+2) at7 O' (.slice qO xs[k].values.length qP));have hO3:=hO.ext hb2;replace hO3:=hO3.setCell (p:=⟨w.heap.size,k * 3,none⟩) (Nat.lt_succ_self _) (.string xs[k].key);replace hO2:=hO2.setCell (p:=⟨w.heap.size,k * 3,none⟩) hf.lt (.string xs[k].key);replace hO3:=hO3.setCell (p:=⟨w.heap.size,k * 3+1,none⟩) (Nat.lt_succ_self _) (.int .i64 xs[k].op);replace hO2:=hO2.setCell (p:=⟨w.heap.size,k * 3+1,none⟩) hf.lt (.int .i64 xs[k].op);replace hO3:=hO3.setCell (p:=⟨w.heap.size,k * 3+2,none⟩) (Nat.lt_succ_self _) (.slice qO xs[k].values.length qP);replace hO2:=hO2.setCell (p:=⟨w.heap.size,k * 3+2,none⟩) hf.lt (.slice qO xs[k].values.length qP);exact Zacq
  ·exact Zabt
theorem aiz:(Tryz.prog.info? 160).map (fun i=>(i.zero,i.size,i.bytes)) = some (some (.agg #[.string ⟨#[]⟩,.bool false,.string ⟨#[]⟩,.int .i64 0]),4,48):=by kernel_rfl
theorem anm:DL Tryz.prog 50 160 (.agg #[.string ⟨#[]⟩,.bool false,.string ⟨#[]⟩,.int .i64 0]) 4 48:=⟨Tryz.underlying50,aiz,rfl,O'⟩
theorem aeW (x:bH) (cs:List Value) (F:List Nat) (w:World) (h:rd w x cs F) (hw:(x.wt:Int)≤1048576) :
 Calls Tryz.prog 108 #[.agg cs.toArray] w fun e w'=>∃cs F,e = .returned (.agg cs.toArray)∧Own w' w.heap.size x cs F∧Below w.heap.size w w':=by
 have HW:=I' hw;clear hw;obtain ⟨_,_,_,_,rfl,rfl,⟨rfl,rfl,hkey⟩,_,_,_,_,rfl,rfl,⟨rfl,rfl⟩,_,_,_,_,rfl,rfl,⟨rfl,rfl,kP⟩,⟨rfl,rfl,lD⟩⟩:=h;replace hkey:=rV (s:=x.key) hkey;replace kP:=rV (s:=x.value) kP;replace lD:I64 x.effect:=lD;simp only [List.cons_append,List.nil_append];go_enter Tryz.func108,Tryz.ntmps108;go_wp2;refine bodyPost_ret (v:=.agg #[.string x.key,.bool x.equal,.string x.value,.int .i64 x.effect]) (by simp [results,Tryz.results108,go_sem, *]) rfl ⟨[.string x.key,.bool x.equal,.string x.value,.int .i64 x.effect],[],rfl,?_,by repeat (first | with_reducible exact aj _ | with_reducible assumption | with_reducible refine ak ?_ _ | with_reducible refine aC ?_ atY _ | with_reducible refine ah ?_ Y')⟩;refine Own.up (B':=w.heap.size) (fun x:bH=>(x.key,x.equal,x.value,x.effect)) ?_ O';refine Own.cons (c1:=[.string x.key]) (rdStr _ x.key hkey) ?_;refine Own.cons (c1:=[.bool x.equal]) (rdBool _ x.equal) ?_;refine Own.cons (c1:=[.string x.value]) (rdStr _ x.value kP) ?_;exact Own.flat (jL _ x.effect lD)
theorem adv (xs:List bH) (A:Option Addr) (c:Nat) (F:List Nat) (w:World) (h:Sl w xs A c F) (hl:(kL bH.wt xs:Int)≤1048576) :
 Calls Tryz.prog 62 #[.slice A xs.length c] w fun e w'=>∃A c F,e = .returned (.slice A xs.length c)∧Own w' w.heap.size xs [.slice A xs.length c] F∧Below w.heap.size w w':=by
 have hlen:(xs.length:Int)≤1048576:=by have:=gJ bH.wt xs;omega
 have HL:=I' hl;clear hl;have hmk:=run_make_full anm O' xs.length O';go_enter Tryz.func62,Tryz.ntmps62;go_wp2_with fail
 go_loopw [4] (fun i wr=>∃(k:Nat) (ds:List Value) (G:List Nat),k≤xs.length∧i = .int .i64 k∧Fill wr w.heap.size 160 (xs.length * 4) ds∧Hid (ds.length = k * 4)∧aY wr (w.heap.size+1) (xs.take k) ds G∧Below w.heap.size w wr) (fun i _=>xs.length - (intOf i).toNat)
 case atStart=>exact ⟨0,[],[],Nat.zero_le _,rfl,Fill.made w _ _ _ auF,by show _ = _;simp,.nil _ _,ak (aj _) _⟩
 case round =>
  obtain ⟨k,ds,G,hk,rfl,hf,hd,hO,hbl⟩:=hrel;by_cases hlt:k < xs.length
  ·obtain ⟨b,o,ck,Fk,rfl,o9,hbs,hr,hsub,hc⟩:=(h.ext hbl).get hlt;obtain ⟨hck,rfl,xO,xk,zT⟩:=jv hr;subst hck;have q0:wr.cell? ⟨b,o+k * 4,none⟩ = some (.string xs[k].key):=(by exact hc 0 _ rfl);have q1:wr.cell? ⟨b,o+k * 4+1,none⟩ = some (.bool xs[k].equal):=(by rw [Nat.add_assoc];exact hc 1 _ rfl);have q2:wr.cell? ⟨b,o+k * 4+2,none⟩ = some (.string xs[k].value):=(by rw [Nat.add_assoc];exact hc 2 _ rfl);have q3:wr.cell? ⟨b,o+k * 4+3,none⟩ = some (.int .i64 xs[k].effect):=(by rw [Nat.add_assoc];exact hc 3 _ rfl);clear hc;have hwk:=rM (f:=bH.wt) hlt;have PU:(bH.wt xs[k]:Int)≤1048576:=(by have:=HL.out;omega);clear hwk
   go_wp2_with (go_at_call 108;refine (aeW xs[k] _ _ _ hr PU).mono ?_;rintro e w2 ⟨cs2,G2,rfl,hO2,hb2⟩
                have hR2:=hO2.rd;obtain ⟨hck,hG2,vC,rP,uY⟩:=jv hR2;subst hck;have hf2:=hf.keep (hb2.block _ hf.lt);obtain ⟨u0,hu0⟩:=hf2.cell (i:=k * 4) O';have aeV:=hf2.frozen (k * 4);obtain ⟨u1,hu1⟩:=hf2.cell (i:=k * 4+1) O';have hfz1:=hf2.frozen (k * 4+1);obtain ⟨u2,hu2⟩:=hf2.cell (i:=k * 4+2) O';have aix:=hf2.frozen (k * 4+2)
                obtain ⟨u3,hu3⟩:=hf2.cell (i:=k * 4+3) O';have hfz3:=hf2.frozen (k * 4+3))
   have hF:=((((hf2.gU (o:=k * 4) auz O' (.string xs[k].key)).gU (o:=k * 4+1) at7 O' (.bool xs[k].equal)).gU (o:=k * 4+2) at7 O' (.string xs[k].value)).gU (o:=k * 4+3) at7 O' (.int .i64 xs[k].effect));have hO3:=hO.ext hb2;replace hO3:=hO3.setCell (p:=⟨w.heap.size,k * 4,none⟩) (Nat.lt_succ_self _) (.string xs[k].key);replace hO2:=hO2.setCell (p:=⟨w.heap.size,k * 4,none⟩) hf.lt (.string xs[k].key);replace hO3:=hO3.setCell (p:=⟨w.heap.size,k * 4+1,none⟩) (Nat.lt_succ_self _) (.bool xs[k].equal);replace hO2:=hO2.setCell (p:=⟨w.heap.size,k * 4+1,none⟩) hf.lt (.bool xs[k].equal);replace hO3:=hO3.setCell (p:=⟨w.heap.size,k * 4+2,none⟩) (Nat.lt_succ_self _) (.string xs[k].value);replace hO2:=hO2.setCell (p:=⟨w.heap.size,k * 4+2,none⟩) hf.lt (.string xs[k].value);replace hO3:=hO3.setCell (p:=⟨w.heap.size,k * 4+3,none⟩) (Nat.lt_succ_self _) (.int .i64 xs[k].effect);replace hO2:=hO2.setCell (p:=⟨w.heap.size,k * 4+3,none⟩) hf.lt (.int .i64 xs[k].effect);have hP:=hO3.push (B':=wr.heap.size) (x:=xs[k]) hO2 hf.lt hO.lt;rw [← List.take_succ_eq_append_getElem hlt] at hP
   (try simp only [List.append_assoc,List.cons_append,List.nil_append] at hF)
   exact ⟨⟨k+1,_,_,O',N',hF,by show _ = _;(simp [hd.out]) <;> omega,hP,aC (aC (aC (aC (ah hbl hb2) (Nat.le_refl _) _) (Nat.le_refl _) _) (Nat.le_refl _) _) (Nat.le_refl _) _⟩,by simp [intOf];omega⟩
  ·exact Zabt
theorem adl:(Tryz.prog.info? 156).map (fun i=>(i.zero,i.size,i.bytes)) = some (some (.agg #[.string ⟨#[]⟩,.string ⟨#[]⟩]),2,32):=by kernel_rfl
theorem ae6:DL Tryz.prog 48 156 (.agg #[.string ⟨#[]⟩,.string ⟨#[]⟩]) 2 32:=⟨Tryz.underlying48,adl,rfl,O'⟩
theorem ank (x:Label) (cs:List Value) (F:List Nat) (w:World) (h:rd w x cs F) (hw:(x.wt:Int)≤1048576) :
 Calls Tryz.prog 106 #[.agg cs.toArray] w fun e w'=>∃cs F,e = .returned (.agg cs.toArray)∧Own w' w.heap.size x cs F∧Below w.heap.size w w':=by
 have HW:=I' hw;clear hw;obtain ⟨_,_,_,_,rfl,rfl,⟨rfl,rfl,hkey⟩,⟨rfl,rfl,kP⟩⟩:=h;replace hkey:=rV (s:=x.key) hkey;replace kP:=rV (s:=x.value) kP;simp only [List.cons_append,List.nil_append];go_enter Tryz.func106,Tryz.ntmps106;go_wp2;refine bodyPost_ret (v:=.agg #[.string x.key,.string x.value]) (by simp [results,Tryz.results106,go_sem, *]) rfl ⟨[.string x.key,.string x.value],[],rfl,?_,by repeat (first | with_reducible exact aj _ | with_reducible assumption | with_reducible refine ak ?_ _ | with_reducible refine aC ?_ atY _ | with_reducible refine ah ?_ Y')⟩;refine Own.up (B':=w.heap.size) (fun x:Label=>(x.key,x.value)) ?_ O';refine Own.cons (c1:=[.string x.key]) (rdStr _ x.key hkey) ?_;exact Own.flat (rdStr _ x.value kP)
theorem KY (xs:List Label) (A:Option Addr) (c:Nat) (F:List Nat) (w:World) (h:Sl w xs A c F) (hl:(kL Label.wt xs:Int)≤1048576) :
 Calls Tryz.prog 60 #[.slice A xs.length c] w fun e w'=>∃A c F,e = .returned (.slice A xs.length c)∧Own w' w.heap.size xs [.slice A xs.length c] F∧Below w.heap.size w w':=by
 have hlen:(xs.length:Int)≤1048576:=by have:=gJ Label.wt xs;omega
 have HL:=I' hl;clear hl;have hmk:=run_make_full ae6 O' xs.length O';go_enter Tryz.func60,Tryz.ntmps60;go_wp2_with fail
 go_loopw [4] (fun i wr=>∃(k:Nat) (ds:List Value) (G:List Nat),k≤xs.length∧i = .int .i64 k∧Fill wr w.heap.size 156 (xs.length * 2) ds∧Hid (ds.length = k * 2)∧aY wr (w.heap.size+1) (xs.take k) ds G∧Below w.heap.size w wr) (fun i _=>xs.length - (intOf i).toNat)
 case atStart=>exact ⟨0,[],[],Nat.zero_le _,rfl,Fill.made w _ _ _ auF,by show _ = _;simp,.nil _ _,ak (aj _) _⟩
 case round =>
  obtain ⟨k,ds,G,hk,rfl,hf,hd,hO,hbl⟩:=hrel;by_cases hlt:k < xs.length
  ·obtain ⟨b,o,ck,Fk,rfl,o9,hbs,hr,hsub,hc⟩:=(h.ext hbl).get hlt;obtain ⟨hck,rfl,xO,xk⟩:=vO hr;subst hck;have q0:wr.cell? ⟨b,o+k * 2,none⟩ = some (.string xs[k].key):=(by exact hc 0 _ rfl);have q1:wr.cell? ⟨b,o+k * 2+1,none⟩ = some (.string xs[k].value):=(by rw [Nat.add_assoc];exact hc 1 _ rfl);clear hc;have hwk:=rM (f:=Label.wt) hlt;have PU:(Label.wt xs[k]:Int)≤1048576:=(by have:=HL.out;omega);clear hwk
   go_wp2_with (go_at_call 106;refine (ank xs[k] _ _ _ hr PU).mono ?_;rintro e w2 ⟨cs2,G2,rfl,hO2,hb2⟩
                have hR2:=hO2.rd;obtain ⟨hck,hG2,vC,rP⟩:=vO hR2;subst hck;have hf2:=hf.keep (hb2.block _ hf.lt);obtain ⟨u0,hu0⟩:=hf2.cell (i:=k * 2) O';have aeV:=hf2.frozen (k * 2)
                obtain ⟨u1,hu1⟩:=hf2.cell (i:=k * 2+1) O';have hfz1:=hf2.frozen (k * 2+1))
   have hF:=((hf2.gU (o:=k * 2) auz O' (.string xs[k].key)).gU (o:=k * 2+1) at7 O' (.string xs[k].value));have hO3:=hO.ext hb2;replace hO3:=hO3.setCell (p:=⟨w.heap.size,k * 2,none⟩) (Nat.lt_succ_self _) (.string xs[k].key);replace hO2:=hO2.setCell (p:=⟨w.heap.size,k * 2,none⟩) hf.lt (.string xs[k].key);replace hO3:=hO3.setCell (p:=⟨w.heap.size,k * 2+1,none⟩) (Nat.lt_succ_self _) (.string xs[k].value);replace hO2:=hO2.setCell (p:=⟨w.heap.size,k * 2+1,none⟩) hf.lt (.string xs[k].value);have hP:=hO3.push (B':=wr.heap.size) (x:=xs[k]) hO2 hf.lt hO.lt;rw [← List.take_succ_eq_append_getElem hlt] at hP
   (try simp only [List.append_assoc,List.cons_append,List.nil_append] at hF)
   exact ⟨⟨k+1,_,_,O',N',hF,by show _ = _;(simp [hd.out]) <;> omega,hP,aC (aC (ah hbl hb2) (Nat.le_refl _) _) (Nat.le_refl _) _⟩,by simp [intOf];omega⟩
  ·exact Zabt
theorem adk:(Tryz.prog.info? 162).map (fun i=>(i.zero,i.size,i.bytes)) = some (some (.agg #[.string ⟨#[]⟩,.string ⟨#[]⟩,.int .i64 0]),3,40):=by kernel_rfl
theorem ae5:DL Tryz.prog 53 162 (.agg #[.string ⟨#[]⟩,.string ⟨#[]⟩,.int .i64 0]) 3 40:=⟨Tryz.underlying53,adk,rfl,O'⟩
theorem anl (x:iU) (cs:List Value) (F:List Nat) (w:World) (h:rd w x cs F) (hw:(x.wt:Int)≤1048576) :
 Calls Tryz.prog 109 #[.agg cs.toArray] w fun e w'=>∃cs F,e = .returned (.agg cs.toArray)∧Own w' w.heap.size x cs F∧Below w.heap.size w w':=by
 have HW:=I' hw;clear hw;obtain ⟨_,_,_,_,rfl,rfl,⟨rfl,rfl,hkey⟩,_,_,_,_,rfl,rfl,⟨rfl,rfl,kP⟩,⟨rfl,rfl,lD⟩⟩:=h;replace hkey:=rV (s:=x.key) hkey;replace kP:=rV (s:=x.value) kP;replace lD:I64 x.effect:=lD;simp only [List.cons_append,List.nil_append];go_enter Tryz.func109,Tryz.ntmps109;go_wp2;refine bodyPost_ret (v:=.agg #[.string x.key,.string x.value,.int .i64 x.effect]) (by simp [results,Tryz.results109,go_sem, *]) rfl ⟨[.string x.key,.string x.value,.int .i64 x.effect],[],rfl,?_,by repeat (first | with_reducible exact aj _ | with_reducible assumption | with_reducible refine ak ?_ _ | with_reducible refine aC ?_ atY _ | with_reducible refine ah ?_ Y')⟩;refine Own.up (B':=w.heap.size) (fun x:iU=>(x.key,x.value,x.effect)) ?_ O';refine Own.cons (c1:=[.string x.key]) (rdStr _ x.key hkey) ?_;refine Own.cons (c1:=[.string x.value]) (rdStr _ x.value kP) ?_;exact Own.flat (jL _ x.effect lD)
theorem alo (xs:List iU) (A:Option Addr) (c:Nat) (F:List Nat) (w:World) (h:Sl w xs A c F) (hl:(kL iU.wt xs:Int)≤1048576) :
 Calls Tryz.prog 63 #[.slice A xs.length c] w fun e w'=>∃A c F,e = .returned (.slice A xs.length c)∧Own w' w.heap.size xs [.slice A xs.length c] F∧Below w.heap.size w w':=by
 have hlen:(xs.length:Int)≤1048576:=by have:=gJ iU.wt xs;omega
 have HL:=I' hl;clear hl;have hmk:=run_make_full ae5 O' xs.length O';go_enter Tryz.func63,Tryz.ntmps63;go_wp2_with fail
 go_loopw [4] (fun i wr=>∃(k:Nat) (ds:List Value) (G:List Nat),k≤xs.length∧i = .int .i64 k∧Fill wr w.heap.size 162 (xs.length * 3) ds∧Hid (ds.length = k * 3)∧aY wr (w.heap.size+1) (xs.take k) ds G∧Below w.heap.size w wr) (fun i _=>xs.length - (intOf i).toNat)
 case atStart=>exact ⟨0,[],[],Nat.zero_le _,rfl,Fill.made w _ _ _ auF,by show _ = _;simp,.nil _ _,ak (aj _) _⟩
 case round =>
  obtain ⟨k,ds,G,hk,rfl,hf,hd,hO,hbl⟩:=hrel;by_cases hlt:k < xs.length
  ·obtain ⟨b,o,ck,Fk,rfl,o9,hbs,hr,hsub,hc⟩:=(h.ext hbl).get hlt;obtain ⟨hck,rfl,xO,xk,zT⟩:=oK hr;subst hck;have q0:wr.cell? ⟨b,o+k * 3,none⟩ = some (.string xs[k].key):=(by exact hc 0 _ rfl);have q1:wr.cell? ⟨b,o+k * 3+1,none⟩ = some (.string xs[k].value):=(by rw [Nat.add_assoc];exact hc 1 _ rfl);have q2:wr.cell? ⟨b,o+k * 3+2,none⟩ = some (.int .i64 xs[k].effect):=(by rw [Nat.add_assoc];exact hc 2 _ rfl);clear hc;have hwk:=rM (f:=iU.wt) hlt;have PU:(iU.wt xs[k]:Int)≤1048576:=(by have:=HL.out;omega);clear hwk
   go_wp2_with (go_at_call 109;refine (anl xs[k] _ _ _ hr PU).mono ?_;rintro e w2 ⟨cs2,G2,rfl,hO2,hb2⟩
                have hR2:=hO2.rd;obtain ⟨hck,hG2,vC,rP,uY⟩:=oK hR2;subst hck;have hf2:=hf.keep (hb2.block _ hf.lt);obtain ⟨u0,hu0⟩:=hf2.cell (i:=k * 3) O';have aeV:=hf2.frozen (k * 3);obtain ⟨u1,hu1⟩:=hf2.cell (i:=k * 3+1) O';have hfz1:=hf2.frozen (k * 3+1)
                obtain ⟨u2,hu2⟩:=hf2.cell (i:=k * 3+2) O';have aix:=hf2.frozen (k * 3+2))
   have hF:=(((hf2.gU (o:=k * 3) auz O' (.string xs[k].key)).gU (o:=k * 3+1) at7 O' (.string xs[k].value)).gU (o:=k * 3+2) at7 O' (.int .i64 xs[k].effect));have hO3:=hO.ext hb2;replace hO3:=hO3.setCell (p:=⟨w.heap.size,k * 3,none⟩) (Nat.lt_succ_self _) (.string xs[k].key);replace hO2:=hO2.setCell (p:=⟨w.heap.size,k * 3,none⟩) hf.lt (.string xs[k].key);replace hO3:=hO3.setCell (p:=⟨w.heap.size,k * 3+1,none⟩) (Nat.lt_succ_self _) (.string xs[k].value);replace hO2:=hO2.setCell (p:=⟨w.heap.size,k * 3+1,none⟩) hf.lt (.string xs[k].value);replace hO3:=hO3.setCell (p:=⟨w.heap.size,k * 3+2,none⟩) (Nat.lt_succ_self _) (.int .i64 xs[k].effect);replace hO2:=hO2.setCell (p:=⟨w.heap.size,k * 3+2,none⟩) hf.lt (.int .i64 xs[k].effect);exact Zacq
  ·exact Zabt
end Go.Proofs.YtkbkikggodlbbaaGreat
