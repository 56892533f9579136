/- laws' comparisons. -/
import Derived.Test.YtkbkikggodlbbaaGreatKit
import Derived.Test.YtkbkikggodlbbaaGreatOrdP
namespace Go.Proofs.YtkbkikggodlbbaaGreat
open Go.ChangeShapes Go.WideShapes Go.ChangeAt Go.RowKit
set_option linter.unusedVariables false
set_option linter.unusedSimpArgs false
set_option maxHeartbeats 1000000
theorem Ce {a b:ByteArray} (h:(a.toList == b.toList) = true):a = b:=by
 have h1:a.toList = b.toList:=by simpa using h
 have h2:a.data.toList = b.data.toList:=by rw [← ByteArray.toList_eq,← ByteArray.toList_eq];exact h1
 cases a;cases b;simp_all
def eqStr (a b:ByteArray):Bool:=a.toList == b.toList
def Am (a b:Int):Bool:=a == b
theorem PW (a b:ByteArray):eqStr a b = true↔a = b:=⟨Ce,fun h=>by subst h;simp [eqStr]⟩
def same {α:Type} (eq:α→α→Bool):List α→List α→Bool
 | [],[]=>true
 | a :: l,b :: m=>eq a b&&same eq l m
 | _,_=>false
theorem qN {α:Type} {eq:α→α→Bool} : ∀{l m:List α},l.length≠m.length→same eq l m = false
 | [],[],h=>absurd rfl h
 | [],_ :: _,_=>rfl
 | _ :: _,[],_=>rfl
 | a :: l,b :: m,h=>by simp only [same];rw [qN (l:=l) (m:=m) avp];simp
theorem iC {α:Type} {eq:α→α→Bool} {l m:List α} {k:Nat} (h:k < l.length) (h':k < m.length):same eq (l.take (k+1)) (m.take (k+1)) = (same eq (l.take k) (m.take k)&&eq l[k] m[k]):=by
 induction k generalizing l m with
 | zero =>
   cases l with
   | nil=>simp at h
   | cons a l =>
     cases m with
     | nil=>simp at h'
     | cons b m=>simp [same]
 | succ k ih =>
   cases l with
   | nil=>simp at h
   | cons a l =>
     cases m with
     | nil=>simp at h'
     | cons b m =>simp only [List.take_succ_cons,same];rw [ih avp (by simpa using h'),Bool.and_assoc];simp
theorem nP {α:Type} {eq:α→α→Bool} {l m:List α} (k:Nat) (h:same eq (l.take k) (m.take k) = false) (hl:l.length = m.length):same eq l m = false:=by
 induction k generalizing l m with
 | zero=>simp [same] at h
 | succ k ih =>cases l <;> cases m <;> simp_all [same]
theorem same_iff {α:Type} {eq:α→α→Bool} (h:∀a b,eq a b = true↔a = b):∀(l m:List α),same eq l m = true↔l = m
 | [],[]=>by simp [same]
 | [],_ :: _=>by simp [same]
 | _ :: _,[]=>by simp [same]
 | a :: l,b :: m=>by simp [same,h,same_iff h l m]
theorem qV (xs ys:List ByteArray) (A B:Option Addr) (c d:Nat) (F G:List Nat) (w:World) (h:Sl w xs A c F) (h':Sl w ys B d G) :
 Calls Tryz.prog 181 #[.slice A xs.length c,.slice B ys.length d] w fun e w'=>e = .returned (.bool (same eqStr xs ys))∧Below w.heap.size w w':=by
 have hc:=h.cap;unfold maxLen at hc;obtain ⟨hc1,hc2⟩:=hc;have hd:=h'.cap;unfold maxLen at hd;obtain ⟨hd1,hd2⟩:=hd;by_cases hl:xs.length = ys.length
 ·have HL:=I' hl;have hb1:((xs.length:Int) != (ys.length:Int)) = false:=by simp [hl]
  clear hl;go_enter Tryz.func181,Tryz.ntmps181;go_wp2;go_loopw [5] (fun i wr=>∃k:Nat,k≤xs.length∧i = .int .i64 k∧Hid (same eqStr (xs.take k) (ys.take k) = true)∧Below w.heap.size w wr) (fun i _=>xs.length - (intOf i).toNat)
  case atStart=>exact ⟨0,Nat.zero_le _,rfl,by show _ = true;simp [same],aj _⟩
  case round =>
   obtain ⟨k,hk,rfl,Heq,hbl⟩:=hrel;by_cases hlt:k < xs.length
   ·obtain ⟨b,o,ck,Fk,rfl,o9,hbs,hr,hsub,hc⟩:=(h.ext hbl).get hlt;have hlt':k < ys.length:=(by rw [← HL.out];exact hlt);obtain ⟨b',o',TY,Xw,rfl,Ht,hbs',hr',zQ,hc'⟩:=(h'.ext hbl).get hlt';obtain ⟨rfl,rfl,_⟩:=hr;obtain ⟨rfl,rfl,_⟩:=hr';have q0:wr.cell? ⟨b,o+k,none⟩ = some (.string xs[k]):=(by have:=hc 0 _ rfl;simpa [Dat.size] using this);have p0:wr.cell? ⟨b',o'+k,none⟩ = some (.string ys[k]):=(by have:=hc' 0 _ rfl;simpa [Dat.size] using this);clear hc hc';go_wp2_with fail
    refine aF wr U' U' auj ?_
    repeat (first
     | (apply aG
        case hw=>rfl
        simp only [Act.put,pz])
     | (apply aH
        case hw=>rfl
        case h =>exact Zaad
        simp only [Act.put,pz]))
    exact Zabc
   ·exact Zabo
 ·have hb1:((xs.length:Int) != (ys.length:Int)) = true:=by simp;omega
  have HL:=I' (qN (eq:=eqStr) hl);clear hl;go_enter Tryz.func181,Tryz.ntmps181;exact Zadc
def vZ (a b:Label):Bool:=(a.key.toList == b.key.toList)&&(a.value.toList == b.value.toList)
theorem J8 (a b:Label):vZ a b = true↔a = b:=by
 constructor
 ·intro h;simp only [vZ,Bool.and_eq_true] at h;have h0:=Ce h.1;have h1:=Ce h.2;cases a;cases b
  simp only at h0 h1;subst h0 h1;rfl
 ·rintro rfl;simp [vZ, *]
theorem alZ (a b:Label) (cs ds:List Value) (F G:List Nat) (w:World) (h:rd w a cs F) (h':rd w b ds G) :
 Calls Tryz.prog 132 #[.agg cs.toArray,.agg ds.toArray] w fun e w'=>e = .returned (.bool (vZ a b))∧Below w.heap.size w w':=by
 obtain ⟨_,_,_,_,rfl,rfl,⟨rfl,rfl,xO⟩,⟨rfl,rfl,xk⟩⟩:=h;replace xO:=rV (s:=a.key) xO;replace xk:=rV (s:=a.value) xk;simp only [List.cons_append,List.nil_append];obtain ⟨_,_,_,_,rfl,rfl,⟨rfl,rfl,vC⟩,⟨rfl,rfl,rP⟩⟩:=h';replace vC:=rV (s:=b.key) vC;replace rP:=rV (s:=b.value) rP;simp only [List.cons_append,List.nil_append];go_enter Tryz.func132,Tryz.ntmps132;go_wp2;all_goals go_ret
 all_goals refine ⟨?_,by repeat (first | with_reducible exact aj _ | with_reducible assumption | with_reducible refine ak ?_ _ | with_reducible refine ah ?_ Y')⟩
 all_goals (simp only [Bool.not_eq_true',Bool.not_eq_false',bne_iff_ne,bne_eq_false_iff_eq,beq_iff_eq,beq_eq_false_iff_ne,ne_eq] at *;simp [vZ, *])
theorem KJ (xs ys:List Label) (A B:Option Addr) (c d:Nat) (F G:List Nat) (w:World) (h:Sl w xs A c F) (h':Sl w ys B d G) :
 Calls Tryz.prog 78 #[.slice A xs.length c,.slice B ys.length d] w fun e w'=>e = .returned (.bool (same vZ xs ys))∧Below w.heap.size w w':=by
 have hc:=h.cap;unfold maxLen at hc;obtain ⟨hc1,hc2⟩:=hc;have hd:=h'.cap;unfold maxLen at hd;obtain ⟨hd1,hd2⟩:=hd;by_cases hl:xs.length = ys.length
 ·have HL:=I' hl;have hb1:((xs.length:Int) != (ys.length:Int)) = false:=by simp [hl]
  clear hl;go_enter Tryz.func78,Tryz.ntmps78;go_wp2;go_loopw [5] (fun i wr=>∃k:Nat,k≤xs.length∧i = .int .i64 k∧Hid (same vZ (xs.take k) (ys.take k) = true)∧Below w.heap.size w wr) (fun i _=>xs.length - (intOf i).toNat)
  case atStart=>exact ⟨0,Nat.zero_le _,rfl,by show _ = true;simp [same],aj _⟩
  case round =>
   obtain ⟨k,hk,rfl,Heq,hbl⟩:=hrel;by_cases hlt:k < xs.length
   ·obtain ⟨b,o,ck,Fk,rfl,o9,hbs,hr,hsub,hc⟩:=(h.ext hbl).get hlt;have hlt':k < ys.length:=(by rw [← HL.out];exact hlt);obtain ⟨b',o',TY,Xw,rfl,Ht,hbs',hr',zQ,hc'⟩:=(h'.ext hbl).get hlt';obtain ⟨hck,rfl,xO,xk⟩:=vO hr;subst hck;obtain ⟨hck,rfl,vC,rP⟩:=vO hr';subst hck;have q0:wr.cell? ⟨b,o+k * 2,none⟩ = some (.string xs[k].key):=(by exact hc 0 _ rfl);have q1:wr.cell? ⟨b,o+k * 2+1,none⟩ = some (.string xs[k].value):=(by rw [Nat.add_assoc];exact hc 1 _ rfl);have p0:wr.cell? ⟨b',o'+k * 2,none⟩ = some (.string ys[k].key):=(by exact hc' 0 _ rfl);have p1:wr.cell? ⟨b',o'+k * 2+1,none⟩ = some (.string ys[k].value):=(by rw [Nat.add_assoc];exact hc' 1 _ rfl);clear hc hc';go_wp2_with fail
    refine aF wr U' U' auj ?_
    repeat (first
     | (apply aG
        case hw=>rfl
        simp only [Act.put,pz])
     | (apply aH
        case hw=>rfl
        case h =>
         intro wq hq;have hcq:=(aB hq).1;have lJ:=(aB hq).2;go_simp
         first
          | exact ⟨hq,rfl⟩
          | exact ⟨aQ hq _,rfl⟩
          | (refine (alZ xs[k] ys[k] _ _ _ _ _ (Dat.frame hr (fun x hx=>hq.out.block x (Dat.lt hr x hx)) hq.out.size) (Dat.frame hr' (fun x hx=>hq.out.block x (Dat.lt hr' x hx)) hq.out.size)).mono ?_;rintro e w2 ⟨rfl,hb2⟩;exact ⟨rfl,aI hq hb2⟩)
          | (simp only [↓IntWalk.iteOmega];exact ⟨hq,rfl⟩)
        simp only [Act.put,pz]))
    exact Zabc
   ·exact Zabo
 ·have hb1:((xs.length:Int) != (ys.length:Int)) = true:=by simp;omega
  have HL:=I' (qN (eq:=vZ) hl);clear hl;go_enter Tryz.func78,Tryz.ntmps78;exact Zadc
def yI (a b:Need):Bool:=(a.key.toList == b.key.toList)&&(a.op == b.op)&&same eqStr a.values b.values
theorem aas (a b:Need):yI a b = true↔a = b:=by
 constructor
 ·intro h;simp only [yI,Bool.and_eq_true] at h;have h0:=Ce h.1.1;have h1:=eq_of_beq h.1.2;have h2:=(same_iff PW _ _).1 h.2;exact Zadp
 ·rintro rfl;have g2:=(same_iff PW a.values a.values).2 rfl;simp [yI, *]
theorem anW (a b:Need) (cs ds:List Value) (F G:List Nat) (w:World) (h:rd w a cs F) (h':rd w b ds G) :
 Calls Tryz.prog 133 #[.agg cs.toArray,.agg ds.toArray] w fun e w'=>e = .returned (.bool (yI a b))∧Below w.heap.size w w':=by
 obtain ⟨_,_,_,_,rfl,rfl,⟨rfl,rfl,xO⟩,_,_,_,_,rfl,rfl,⟨rfl,rfl,hop1⟩,wO⟩:=h;obtain ⟨pX,pY,rfl,wO⟩:=jB wO;replace xO:=rV (s:=a.key) xO;replace hop1:I64 a.op:=hop1;replace wO:Sl _ a.values pX pY _:=wO;simp only [List.cons_append,List.nil_append];obtain ⟨_,_,_,_,rfl,rfl,⟨rfl,rfl,vC⟩,_,_,_,_,rfl,rfl,⟨rfl,rfl,hop2⟩,zS⟩:=h';obtain ⟨qO,qP,rfl,zS⟩:=jB zS;replace vC:=rV (s:=b.key) vC;replace hop2:I64 b.op:=hop2;replace zS:Sl _ b.values qO qP _:=zS;simp only [List.cons_append,List.nil_append];go_enter Tryz.func133,Tryz.ntmps133;go_wp2_with (first | (go_at_call 181;refine (qV a.values b.values _ _ _ _ _ _ _ (wO.ext atS) (zS.ext atS)).mono ?_;rintro e w2 ⟨rfl,hb2⟩;obtain ⟨hc2,hf2⟩:=ay hb2;have al0:w.heap.size < w2.heap.size:=(sq hb2.size);have hz21:w.heap.size+1 < w2.heap.size:=(sq hb2.size)))
 all_goals go_ret
 all_goals refine ⟨?_,by repeat (first | with_reducible exact aj _ | with_reducible assumption | with_reducible refine ak ?_ _ | with_reducible refine ah ?_ Y')⟩
 all_goals (simp only [Bool.not_eq_true',Bool.not_eq_false',bne_iff_ne,bne_eq_false_iff_eq,beq_iff_eq,beq_eq_false_iff_ne,ne_eq] at *;simp [yI, *])
theorem al1 (xs ys:List Need) (A B:Option Addr) (c d:Nat) (F G:List Nat) (w:World) (h:Sl w xs A c F) (h':Sl w ys B d G) :
 Calls Tryz.prog 79 #[.slice A xs.length c,.slice B ys.length d] w fun e w'=>e = .returned (.bool (same yI xs ys))∧Below w.heap.size w w':=by
 have hc:=h.cap;unfold maxLen at hc;obtain ⟨hc1,hc2⟩:=hc;have hd:=h'.cap;unfold maxLen at hd;obtain ⟨hd1,hd2⟩:=hd;by_cases hl:xs.length = ys.length
 ·have HL:=I' hl;have hb1:((xs.length:Int) != (ys.length:Int)) = false:=by simp [hl]
  clear hl;go_enter Tryz.func79,Tryz.ntmps79;go_wp2;go_loopw [5] (fun i wr=>∃k:Nat,k≤xs.length∧i = .int .i64 k∧Hid (same yI (xs.take k) (ys.take k) = true)∧Below w.heap.size w wr) (fun i _=>xs.length - (intOf i).toNat)
  case atStart=>exact ⟨0,Nat.zero_le _,rfl,by show _ = true;simp [same],aj _⟩
  case round =>
   obtain ⟨k,hk,rfl,Heq,hbl⟩:=hrel;by_cases hlt:k < xs.length
   ·obtain ⟨b,o,ck,Fk,rfl,o9,hbs,hr,hsub,hc⟩:=(h.ext hbl).get hlt;have hlt':k < ys.length:=(by rw [← HL.out];exact hlt);obtain ⟨b',o',TY,Xw,rfl,Ht,hbs',hr',zQ,hc'⟩:=(h'.ext hbl).get hlt';obtain ⟨pX,pY,KG,hck,rfl,xO,hop1,wO⟩:=og hr;subst hck;obtain ⟨qO,qP,KL,hck,rfl,vC,hop2,zS⟩:=og hr';subst hck;have q0:wr.cell? ⟨b,o+k * 3,none⟩ = some (.string xs[k].key):=(by exact hc 0 _ rfl);have q1:wr.cell? ⟨b,o+k * 3+1,none⟩ = some (.int .i64 xs[k].op):=(by rw [Nat.add_assoc];exact hc 1 _ rfl);have q2:wr.cell? ⟨b,o+k * 3+2,none⟩ = some (.slice pX xs[k].values.length pY):=(by rw [Nat.add_assoc];exact hc 2 _ rfl);have p0:wr.cell? ⟨b',o'+k * 3,none⟩ = some (.string ys[k].key):=(by exact hc' 0 _ rfl);have p1:wr.cell? ⟨b',o'+k * 3+1,none⟩ = some (.int .i64 ys[k].op):=(by rw [Nat.add_assoc];exact hc' 1 _ rfl);have p2:wr.cell? ⟨b',o'+k * 3+2,none⟩ = some (.slice qO ys[k].values.length qP):=(by rw [Nat.add_assoc];exact hc' 2 _ rfl);clear hc hc';go_wp2_with fail
    refine aF wr U' U' auj ?_
    repeat (first
     | (apply aG
        case hw=>rfl
        simp only [Act.put,pz])
     | (apply aH
        case hw=>rfl
        case h =>
         intro wq hq;have hcq:=(aB hq).1;have lJ:=(aB hq).2;go_simp
         first
          | exact ⟨hq,rfl⟩
          | exact ⟨aQ hq _,rfl⟩
          | (refine (anW xs[k] ys[k] _ _ _ _ _ (Dat.frame hr (fun x hx=>hq.out.block x (Dat.lt hr x hx)) hq.out.size) (Dat.frame hr' (fun x hx=>hq.out.block x (Dat.lt hr' x hx)) hq.out.size)).mono ?_;rintro e w2 ⟨rfl,hb2⟩;exact ⟨rfl,aI hq hb2⟩)
          | (simp only [↓IntWalk.iteOmega];exact ⟨hq,rfl⟩)
        simp only [Act.put,pz]))
    exact Zabc
   ·exact Zabo
 ·have hb1:((xs.length:Int) != (ys.length:Int)) = true:=by simp;omega
  have HL:=I' (qN (eq:=yI) hl);clear hl;go_enter Tryz.func79,Tryz.ntmps79;exact Zadc
def Aq (a b:iU):Bool:=(a.key.toList == b.key.toList)&&(a.value.toList == b.value.toList)&&(a.effect == b.effect)
theorem Xx (a b:iU):Aq a b = true↔a = b:=by
 constructor
 ·intro h;simp only [Aq,Bool.and_eq_true] at h;have h0:=Ce h.1.1;have h1:=Ce h.1.2;have h2:=eq_of_beq h.2;exact Zadp
 ·rintro rfl;simp [Aq, *]
theorem adH (a b:iU) (cs ds:List Value) (F G:List Nat) (w:World) (h:rd w a cs F) (h':rd w b ds G) :
 Calls Tryz.prog 135 #[.agg cs.toArray,.agg ds.toArray] w fun e w'=>e = .returned (.bool (Aq a b))∧Below w.heap.size w w':=by
 obtain ⟨_,_,_,_,rfl,rfl,⟨rfl,rfl,xO⟩,_,_,_,_,rfl,rfl,⟨rfl,rfl,xk⟩,⟨rfl,rfl,zT⟩⟩:=h;replace xO:=rV (s:=a.key) xO;replace xk:=rV (s:=a.value) xk;replace zT:I64 a.effect:=zT;simp only [List.cons_append,List.nil_append];obtain ⟨_,_,_,_,rfl,rfl,⟨rfl,rfl,vC⟩,_,_,_,_,rfl,rfl,⟨rfl,rfl,rP⟩,⟨rfl,rfl,uY⟩⟩:=h';replace vC:=rV (s:=b.key) vC;replace rP:=rV (s:=b.value) rP;replace uY:I64 b.effect:=uY;simp only [List.cons_append,List.nil_append];go_enter Tryz.func135,Tryz.ntmps135;go_wp2;all_goals go_ret
 all_goals refine ⟨?_,by repeat (first | with_reducible exact aj _ | with_reducible assumption | with_reducible refine ak ?_ _ | with_reducible refine ah ?_ Y')⟩
 all_goals (simp only [Bool.not_eq_true',Bool.not_eq_false',bne_iff_ne,bne_eq_false_iff_eq,beq_iff_eq,beq_eq_false_iff_ne,ne_eq] at *;simp [Aq, *])
theorem ajy (xs ys:List iU) (A B:Option Addr) (c d:Nat) (F G:List Nat) (w:World) (h:Sl w xs A c F) (h':Sl w ys B d G) :
 Calls Tryz.prog 81 #[.slice A xs.length c,.slice B ys.length d] w fun e w'=>e = .returned (.bool (same Aq xs ys))∧Below w.heap.size w w':=by
 have hc:=h.cap;unfold maxLen at hc;obtain ⟨hc1,hc2⟩:=hc;have hd:=h'.cap;unfold maxLen at hd;obtain ⟨hd1,hd2⟩:=hd;by_cases hl:xs.length = ys.length
 ·have HL:=I' hl;have hb1:((xs.length:Int) != (ys.length:Int)) = false:=by simp [hl]
  clear hl;go_enter Tryz.func81,Tryz.ntmps81;go_wp2;go_loopw [5] (fun i wr=>∃k:Nat,k≤xs.length∧i = .int .i64 k∧Hid (same Aq (xs.take k) (ys.take k) = true)∧Below w.heap.size w wr) (fun i _=>xs.length - (intOf i).toNat)
  case atStart=>exact ⟨0,Nat.zero_le _,rfl,by show _ = true;simp [same],aj _⟩
  case round =>
   obtain ⟨k,hk,rfl,Heq,hbl⟩:=hrel;by_cases hlt:k < xs.length
   ·obtain ⟨b,o,ck,Fk,rfl,o9,hbs,hr,hsub,hc⟩:=(h.ext hbl).get hlt;have hlt':k < ys.length:=(by rw [← HL.out];exact hlt);obtain ⟨b',o',TY,Xw,rfl,Ht,hbs',hr',zQ,hc'⟩:=(h'.ext hbl).get hlt';obtain ⟨hck,rfl,xO,xk,zT⟩:=oK hr;subst hck;obtain ⟨hck,rfl,vC,rP,uY⟩:=oK hr';subst hck;have q0:wr.cell? ⟨b,o+k * 3,none⟩ = some (.string xs[k].key):=(by exact hc 0 _ rfl);have q1:wr.cell? ⟨b,o+k * 3+1,none⟩ = some (.string xs[k].value):=(by rw [Nat.add_assoc];exact hc 1 _ rfl);have q2:wr.cell? ⟨b,o+k * 3+2,none⟩ = some (.int .i64 xs[k].effect):=(by rw [Nat.add_assoc];exact hc 2 _ rfl);have p0:wr.cell? ⟨b',o'+k * 3,none⟩ = some (.string ys[k].key):=(by exact hc' 0 _ rfl);have p1:wr.cell? ⟨b',o'+k * 3+1,none⟩ = some (.string ys[k].value):=(by rw [Nat.add_assoc];exact hc' 1 _ rfl);have p2:wr.cell? ⟨b',o'+k * 3+2,none⟩ = some (.int .i64 ys[k].effect):=(by rw [Nat.add_assoc];exact hc' 2 _ rfl);clear hc hc';go_wp2_with fail
    refine aF wr U' U' auj ?_
    repeat (first
     | (apply aG
        case hw=>rfl
        simp only [Act.put,pz])
     | (apply aH
        case hw=>rfl
        case h =>
         intro wq hq;have hcq:=(aB hq).1;have lJ:=(aB hq).2;go_simp
         first
          | exact ⟨hq,rfl⟩
          | exact ⟨aQ hq _,rfl⟩
          | (refine (adH xs[k] ys[k] _ _ _ _ _ (Dat.frame hr (fun x hx=>hq.out.block x (Dat.lt hr x hx)) hq.out.size) (Dat.frame hr' (fun x hx=>hq.out.block x (Dat.lt hr' x hx)) hq.out.size)).mono ?_;rintro e w2 ⟨rfl,hb2⟩;exact ⟨rfl,aI hq hb2⟩)
          | (simp only [↓IntWalk.iteOmega];exact ⟨hq,rfl⟩)
        simp only [Act.put,pz]))
    exact Zabc
   ·exact Zabo
 ·have hb1:((xs.length:Int) != (ys.length:Int)) = true:=by simp;omega
  have HL:=I' (qN (eq:=Aq) hl);clear hl;go_enter Tryz.func81,Tryz.ntmps81;exact Zadc
def oP (a b:bH):Bool:=(a.key.toList == b.key.toList)&&(a.equal == b.equal)&&(a.value.toList == b.value.toList)&&(a.effect == b.effect)
theorem WC (a b:bH):oP a b = true↔a = b:=by
 constructor
 ·intro h;simp only [oP,Bool.and_eq_true] at h;have h0:=Ce h.1.1.1;have h1:=eq_of_beq h.1.1.2;have h2:=Ce h.1.2;have h3:=eq_of_beq h.2;cases a;cases b
  simp only at h0 h1 h2 h3;subst h0 h1 h2 h3;rfl
 ·rintro rfl;simp [oP, *]
theorem aem (a b:bH) (cs ds:List Value) (F G:List Nat) (w:World) (h:rd w a cs F) (h':rd w b ds G) :
 Calls Tryz.prog 134 #[.agg cs.toArray,.agg ds.toArray] w fun e w'=>e = .returned (.bool (oP a b))∧Below w.heap.size w w':=by
 obtain ⟨_,_,_,_,rfl,rfl,⟨rfl,rfl,xO⟩,_,_,_,_,rfl,rfl,⟨rfl,rfl⟩,_,_,_,_,rfl,rfl,⟨rfl,rfl,xk⟩,⟨rfl,rfl,zT⟩⟩:=h;replace xO:=rV (s:=a.key) xO;replace xk:=rV (s:=a.value) xk;replace zT:I64 a.effect:=zT;simp only [List.cons_append,List.nil_append];obtain ⟨_,_,_,_,rfl,rfl,⟨rfl,rfl,vC⟩,_,_,_,_,rfl,rfl,⟨rfl,rfl⟩,_,_,_,_,rfl,rfl,⟨rfl,rfl,rP⟩,⟨rfl,rfl,uY⟩⟩:=h';replace vC:=rV (s:=b.key) vC;replace rP:=rV (s:=b.value) rP;replace uY:I64 b.effect:=uY;simp only [List.cons_append,List.nil_append];go_enter Tryz.func134,Tryz.ntmps134;go_wp2;all_goals go_ret
 all_goals refine ⟨?_,by repeat (first | with_reducible exact aj _ | with_reducible assumption | with_reducible refine ak ?_ _ | with_reducible refine ah ?_ Y')⟩
 all_goals (simp only [Bool.not_eq_true',Bool.not_eq_false',bne_iff_ne,bne_eq_false_iff_eq,beq_iff_eq,beq_eq_false_iff_ne,ne_eq] at *;simp [oP, *])
theorem acS (xs ys:List bH) (A B:Option Addr) (c d:Nat) (F G:List Nat) (w:World) (h:Sl w xs A c F) (h':Sl w ys B d G) :
 Calls Tryz.prog 80 #[.slice A xs.length c,.slice B ys.length d] w fun e w'=>e = .returned (.bool (same oP xs ys))∧Below w.heap.size w w':=by
 have hc:=h.cap;unfold maxLen at hc;obtain ⟨hc1,hc2⟩:=hc;have hd:=h'.cap;unfold maxLen at hd;obtain ⟨hd1,hd2⟩:=hd;by_cases hl:xs.length = ys.length
 ·have HL:=I' hl;have hb1:((xs.length:Int) != (ys.length:Int)) = false:=by simp [hl]
  clear hl;go_enter Tryz.func80,Tryz.ntmps80;go_wp2;go_loopw [5] (fun i wr=>∃k:Nat,k≤xs.length∧i = .int .i64 k∧Hid (same oP (xs.take k) (ys.take k) = true)∧Below w.heap.size w wr) (fun i _=>xs.length - (intOf i).toNat)
  case atStart=>exact ⟨0,Nat.zero_le _,rfl,by show _ = true;simp [same],aj _⟩
  case round =>
   obtain ⟨k,hk,rfl,Heq,hbl⟩:=hrel;by_cases hlt:k < xs.length
   ·obtain ⟨b,o,ck,Fk,rfl,o9,hbs,hr,hsub,hc⟩:=(h.ext hbl).get hlt;have hlt':k < ys.length:=(by rw [← HL.out];exact hlt);obtain ⟨b',o',TY,Xw,rfl,Ht,hbs',hr',zQ,hc'⟩:=(h'.ext hbl).get hlt';obtain ⟨hck,rfl,xO,xk,zT⟩:=jv hr;subst hck;obtain ⟨hck,rfl,vC,rP,uY⟩:=jv hr';subst hck;have q0:wr.cell? ⟨b,o+k * 4,none⟩ = some (.string xs[k].key):=(by exact hc 0 _ rfl);have q1:wr.cell? ⟨b,o+k * 4+1,none⟩ = some (.bool xs[k].equal):=(by rw [Nat.add_assoc];exact hc 1 _ rfl);have q2:wr.cell? ⟨b,o+k * 4+2,none⟩ = some (.string xs[k].value):=(by rw [Nat.add_assoc];exact hc 2 _ rfl);have q3:wr.cell? ⟨b,o+k * 4+3,none⟩ = some (.int .i64 xs[k].effect):=(by rw [Nat.add_assoc];exact hc 3 _ rfl);have p0:wr.cell? ⟨b',o'+k * 4,none⟩ = some (.string ys[k].key):=(by exact hc' 0 _ rfl);have p1:wr.cell? ⟨b',o'+k * 4+1,none⟩ = some (.bool ys[k].equal):=(by rw [Nat.add_assoc];exact hc' 1 _ rfl);have p2:wr.cell? ⟨b',o'+k * 4+2,none⟩ = some (.string ys[k].value):=(by rw [Nat.add_assoc];exact hc' 2 _ rfl);have p3:wr.cell? ⟨b',o'+k * 4+3,none⟩ = some (.int .i64 ys[k].effect):=(by rw [Nat.add_assoc];exact hc' 3 _ rfl);clear hc hc';go_wp2_with fail
    refine aF wr U' U' auj ?_
    repeat (first
     | (apply aG
        case hw=>rfl
        simp only [Act.put,pz])
     | (apply aH
        case hw=>rfl
        case h =>
         intro wq hq;have hcq:=(aB hq).1;have lJ:=(aB hq).2;go_simp
         first
          | exact ⟨hq,rfl⟩
          | exact ⟨aQ hq _,rfl⟩
          | (refine (aem xs[k] ys[k] _ _ _ _ _ (Dat.frame hr (fun x hx=>hq.out.block x (Dat.lt hr x hx)) hq.out.size) (Dat.frame hr' (fun x hx=>hq.out.block x (Dat.lt hr' x hx)) hq.out.size)).mono ?_;rintro e w2 ⟨rfl,hb2⟩;exact ⟨rfl,aI hq hb2⟩)
          | (simp only [↓IntWalk.iteOmega];exact ⟨hq,rfl⟩)
        simp only [Act.put,pz]))
    exact Zabc
   ·exact Zabo
 ·have hb1:((xs.length:Int) != (ys.length:Int)) = true:=by simp;omega
  have HL:=I' (qN (eq:=oP) hl);clear hl;go_enter Tryz.func80,Tryz.ntmps80;exact Zadc
def vF (a b:nI):Bool:=(a.name.toList == b.name.toList)&&same vZ a.labels b.labels&&(a.cpu == b.cpu)&&(a.mem == b.mem)&&(a.rank == b.rank)&&same yI a.needs b.needs&&same oP a.tolerances b.tolerances
theorem yh (a b:nI):vF a b = true↔a = b:=by
 constructor
 ·intro h;simp only [vF,Bool.and_eq_true] at h;have h0:=Ce h.1.1.1.1.1.1;have h1:=(same_iff J8 _ _).1 h.1.1.1.1.1.2;have h2:=eq_of_beq h.1.1.1.1.2;have h3:=eq_of_beq h.1.1.1.2;have h4:=eq_of_beq h.1.1.2;have h5:=(same_iff aas _ _).1 h.1.2;have h6:=(same_iff WC _ _).1 h.2;cases a;cases b
  simp only at h0 h1 h2 h3 h4 h5 h6;subst h0 h1 h2 h3 h4 h5 h6;rfl
 ·rintro rfl;have g1:=(same_iff J8 a.labels a.labels).2 rfl;have g5:=(same_iff aas a.needs a.needs).2 rfl;have g6:=(same_iff WC a.tolerances a.tolerances).2 rfl;simp [vF, *]
theorem yj (a b:nI) (cs ds:List Value) (F G:List Nat) (w:World) (h:rd w a cs F) (h':rd w b ds G) :
 Calls Tryz.prog 35 #[.agg cs.toArray,.agg ds.toArray] w fun e w'=>e = .returned (.bool (vF a b))∧Below w.heap.size w w':=by
 obtain ⟨_,_,_,_,rfl,rfl,⟨rfl,rfl,hname1⟩,_,_,_,_,rfl,rfl,jr,_,_,_,_,rfl,rfl,⟨rfl,rfl,IQ⟩,_,_,_,_,rfl,rfl,⟨rfl,rfl,IU⟩,_,_,_,_,rfl,rfl,⟨rfl,rfl,Sj⟩,_,_,_,_,rfl,rfl,Bv,qc⟩:=h;obtain ⟨dU,dV,rfl,jr⟩:=jB jr;obtain ⟨mJ,mM,rfl,Bv⟩:=jB Bv;obtain ⟨fK,fM,rfl,qc⟩:=jB qc;replace hname1:=rV (s:=a.name) hname1;replace jr:Sl _ a.labels dU dV _:=jr;replace IQ:I64 a.cpu:=IQ;replace IU:I64 a.mem:=IU;replace Sj:I64 a.rank:=Sj;replace Bv:Sl _ a.needs mJ mM _:=Bv;replace qc:Sl _ a.tolerances fK fM _:=qc;simp only [List.cons_append,List.nil_append];obtain ⟨_,_,_,_,rfl,rfl,⟨rfl,rfl,jW⟩,_,_,_,_,rfl,rfl,dA,_,_,_,_,rfl,rfl,⟨rfl,rfl,kQ⟩,_,_,_,_,rfl,rfl,⟨rfl,rfl,lg⟩,_,_,_,_,rfl,rfl,⟨rfl,rfl,lG⟩,_,_,_,_,rfl,rfl,iO,bK⟩:=h';obtain ⟨bY,bZ,rfl,dA⟩:=jB dA;obtain ⟨eU,eX,rfl,iO⟩:=jB iO;obtain ⟨bg,bn,rfl,bK⟩:=jB bK;replace jW:=rV (s:=b.name) jW;replace dA:Sl _ b.labels bY bZ _:=dA;replace kQ:I64 b.cpu:=kQ;replace lg:I64 b.mem:=lg;replace lG:I64 b.rank:=lG;replace iO:Sl _ b.needs eU eX _:=iO;replace bK:Sl _ b.tolerances bg bn _:=bK;simp only [List.cons_append,List.nil_append];go_enter Tryz.func35,Tryz.ntmps35;go_wp2_with (first | (go_at_call 78;refine (KJ a.labels b.labels _ _ _ _ _ _ _ (jr.ext atS) (dA.ext atS)).mono ?_;rintro e w1 ⟨rfl,hb1⟩;obtain ⟨hc1,hf1⟩:=ay hb1;have zO:w.heap.size < w1.heap.size:=(sq hb1.size);have CO:w.heap.size+1 < w1.heap.size:=(sq hb1.size)) | (go_at_call 79;refine (al1 a.needs b.needs _ _ _ _ _ _ _ (Bv.ext atS) (iO.ext atS)).mono ?_;rintro e w5 ⟨rfl,hb5⟩;obtain ⟨hc5,hf5⟩:=ay hb5;have Sm:w.heap.size < w5.heap.size:=(sq hb5.size);have WW:w.heap.size+1 < w5.heap.size:=(sq hb5.size)) | (go_at_call 80;refine (acS a.tolerances b.tolerances _ _ _ _ _ _ _ (qc.ext atS) (bK.ext atS)).mono ?_;rintro e w6 ⟨rfl,hb6⟩;obtain ⟨hc6,Xe⟩:=ay hb6;have al2:w.heap.size < w6.heap.size:=(sq hb6.size);have hz61:w.heap.size+1 < w6.heap.size:=(sq hb6.size)))
 all_goals go_ret
 all_goals refine ⟨?_,by repeat (first | with_reducible exact aj _ | with_reducible assumption | with_reducible refine ak ?_ _ | with_reducible refine ah ?_ Y')⟩
 all_goals (simp only [Bool.not_eq_true',Bool.not_eq_false',bne_iff_ne,bne_eq_false_iff_eq,beq_iff_eq,beq_eq_false_iff_ne,ne_eq] at *;simp [vF, *])
def ou (a b:Host):Bool:=(a.name.toList == b.name.toList)&&same vZ a.labels b.labels&&(a.cpu == b.cpu)&&(a.mem == b.mem)&&(a.slots == b.slots)&&same Aq a.aT b.aT
theorem LW (a b:Host):ou a b = true↔a = b:=by
 constructor
 ·intro h;simp only [ou,Bool.and_eq_true] at h;have h0:=Ce h.1.1.1.1.1;have h1:=(same_iff J8 _ _).1 h.1.1.1.1.2;have h2:=eq_of_beq h.1.1.1.2;have h3:=eq_of_beq h.1.1.2;have h4:=eq_of_beq h.1.2;have h5:=(same_iff Xx _ _).1 h.2;cases a;cases b
  simp only at h0 h1 h2 h3 h4 h5;subst h0 h1 h2 h3 h4 h5;rfl
 ·rintro rfl;have g1:=(same_iff J8 a.labels a.labels).2 rfl;have g5:=(same_iff Xx a.aT a.aT).2 rfl;simp [ou, *]
theorem Qd (a b:Host) (cs ds:List Value) (F G:List Nat) (w:World) (h:rd w a cs F) (h':rd w b ds G) :
 Calls Tryz.prog 36 #[.agg cs.toArray,.agg ds.toArray] w fun e w'=>e = .returned (.bool (ou a b))∧Below w.heap.size w w':=by
 obtain ⟨_,_,_,_,rfl,rfl,⟨rfl,rfl,hname1⟩,_,_,_,_,rfl,rfl,jr,_,_,_,_,rfl,rfl,⟨rfl,rfl,IQ⟩,_,_,_,_,rfl,rfl,⟨rfl,rfl,IU⟩,_,_,_,_,rfl,rfl,⟨rfl,rfl,KD⟩,yO⟩:=h;obtain ⟨dU,dV,rfl,jr⟩:=jB jr;obtain ⟨kY,kZ,rfl,yO⟩:=jB yO;replace hname1:=rV (s:=a.name) hname1;replace jr:Sl _ a.labels dU dV _:=jr;replace IQ:I64 a.cpu:=IQ;replace IU:I64 a.mem:=IU;replace KD:I64 a.slots:=KD;replace yO:Sl _ a.aT kY kZ _:=yO;simp only [List.cons_append,List.nil_append];obtain ⟨_,_,_,_,rfl,rfl,⟨rfl,rfl,jW⟩,_,_,_,_,rfl,rfl,dA,_,_,_,_,rfl,rfl,⟨rfl,rfl,kQ⟩,_,_,_,_,rfl,rfl,⟨rfl,rfl,lg⟩,_,_,_,_,rfl,rfl,⟨rfl,rfl,Nh⟩,Bd⟩:=h';obtain ⟨bY,bZ,rfl,dA⟩:=jB dA;obtain ⟨wP,wQ,rfl,Bd⟩:=jB Bd;replace jW:=rV (s:=b.name) jW;replace dA:Sl _ b.labels bY bZ _:=dA;replace kQ:I64 b.cpu:=kQ;replace lg:I64 b.mem:=lg;replace Nh:I64 b.slots:=Nh;replace Bd:Sl _ b.aT wP wQ _:=Bd;simp only [List.cons_append,List.nil_append];go_enter Tryz.func36,Tryz.ntmps36;go_wp2_with (first | (go_at_call 78;refine (KJ a.labels b.labels _ _ _ _ _ _ _ (jr.ext atS) (dA.ext atS)).mono ?_;rintro e w1 ⟨rfl,hb1⟩;obtain ⟨hc1,hf1⟩:=ay hb1;have zO:w.heap.size < w1.heap.size:=(sq hb1.size);have CO:w.heap.size+1 < w1.heap.size:=(sq hb1.size)) | (go_at_call 81;refine (ajy a.aT b.aT _ _ _ _ _ _ _ (yO.ext atS) (Bd.ext atS)).mono ?_;rintro e w5 ⟨rfl,hb5⟩;obtain ⟨hc5,hf5⟩:=ay hb5;have Sm:w.heap.size < w5.heap.size:=(sq hb5.size);have WW:w.heap.size+1 < w5.heap.size:=(sq hb5.size)))
 all_goals go_ret
 all_goals refine ⟨?_,by repeat (first | with_reducible exact aj _ | with_reducible assumption | with_reducible refine ak ?_ _ | with_reducible refine ah ?_ Y')⟩
 all_goals (simp only [Bool.not_eq_true',Bool.not_eq_false',bne_iff_ne,bne_eq_false_iff_eq,beq_iff_eq,beq_eq_false_iff_ne,ne_eq] at *;simp [ou, *])
theorem al3 (xs ys:List Host) (A B:Option Addr) (c d:Nat) (F G:List Nat) (w:World) (h:Sl w xs A c F) (h':Sl w ys B d G) :
 Calls Tryz.prog 32 #[.slice A xs.length c,.slice B ys.length d] w fun e w'=>e = .returned (.bool (same ou xs ys))∧Below w.heap.size w w':=by
 have hc:=h.cap;unfold maxLen at hc;obtain ⟨hc1,hc2⟩:=hc;have hd:=h'.cap;unfold maxLen at hd;obtain ⟨hd1,hd2⟩:=hd;by_cases hl:xs.length = ys.length
 ·have HL:=I' hl;have hb1:((xs.length:Int) != (ys.length:Int)) = false:=by simp [hl]
  clear hl;go_enter Tryz.func32,Tryz.ntmps32;go_wp2;go_loopw [5] (fun i wr=>∃k:Nat,k≤xs.length∧i = .int .i64 k∧Hid (same ou (xs.take k) (ys.take k) = true)∧Below w.heap.size w wr) (fun i _=>xs.length - (intOf i).toNat)
  case atStart=>exact ⟨0,Nat.zero_le _,rfl,by show _ = true;simp [same],aj _⟩
  case round =>
   obtain ⟨k,hk,rfl,Heq,hbl⟩:=hrel;by_cases hlt:k < xs.length
   ·obtain ⟨b,o,ck,Fk,rfl,o9,hbs,hr,hsub,hc⟩:=(h.ext hbl).get hlt;have hlt':k < ys.length:=(by rw [← HL.out];exact hlt);obtain ⟨b',o',TY,Xw,rfl,Ht,hbs',hr',zQ,hc'⟩:=(h'.ext hbl).get hlt';obtain ⟨dU,dV,Ba,kY,kZ,NR,hck,rfl,hname1,jr,IQ,IU,KD,yO⟩:=iy hr;subst hck;obtain ⟨bY,bZ,iq,wP,wQ,Qe,hck,rfl,jW,dA,kQ,lg,Nh,Bd⟩:=iy hr';subst hck;have q0:wr.cell? ⟨b,o+k * 6,none⟩ = some (.string xs[k].name):=(by exact hc 0 _ rfl);have q1:wr.cell? ⟨b,o+k * 6+1,none⟩ = some (.slice dU xs[k].labels.length dV):=(by rw [Nat.add_assoc];exact hc 1 _ rfl);have q2:wr.cell? ⟨b,o+k * 6+2,none⟩ = some (.int .i64 xs[k].cpu):=(by rw [Nat.add_assoc];exact hc 2 _ rfl);have q3:wr.cell? ⟨b,o+k * 6+3,none⟩ = some (.int .i64 xs[k].mem):=(by rw [Nat.add_assoc];exact hc 3 _ rfl);have q4:wr.cell? ⟨b,o+k * 6+4,none⟩ = some (.int .i64 xs[k].slots):=(by rw [Nat.add_assoc];exact hc 4 _ rfl);have q5:wr.cell? ⟨b,o+k * 6+5,none⟩ = some (.slice kY xs[k].aT.length kZ):=(by rw [Nat.add_assoc];exact hc 5 _ rfl);have p0:wr.cell? ⟨b',o'+k * 6,none⟩ = some (.string ys[k].name):=(by exact hc' 0 _ rfl);have p1:wr.cell? ⟨b',o'+k * 6+1,none⟩ = some (.slice bY ys[k].labels.length bZ):=(by rw [Nat.add_assoc];exact hc' 1 _ rfl);have p2:wr.cell? ⟨b',o'+k * 6+2,none⟩ = some (.int .i64 ys[k].cpu):=(by rw [Nat.add_assoc];exact hc' 2 _ rfl);have p3:wr.cell? ⟨b',o'+k * 6+3,none⟩ = some (.int .i64 ys[k].mem):=(by rw [Nat.add_assoc];exact hc' 3 _ rfl);have p4:wr.cell? ⟨b',o'+k * 6+4,none⟩ = some (.int .i64 ys[k].slots):=(by rw [Nat.add_assoc];exact hc' 4 _ rfl);have p5:wr.cell? ⟨b',o'+k * 6+5,none⟩ = some (.slice wP ys[k].aT.length wQ):=(by rw [Nat.add_assoc];exact hc' 5 _ rfl);clear hc hc';go_wp2_with fail
    refine aF wr U' U' auj ?_
    repeat (first
     | (apply aG
        case hw=>rfl
        simp only [Act.put,pz])
     | (apply aH
        case hw=>rfl
        case h =>
         intro wq hq;have hcq:=(aB hq).1;have lJ:=(aB hq).2;go_simp
         first
          | exact ⟨hq,rfl⟩
          | exact ⟨aQ hq _,rfl⟩
          | (refine (Qd xs[k] ys[k] _ _ _ _ _ (Dat.frame hr (fun x hx=>hq.out.block x (Dat.lt hr x hx)) hq.out.size) (Dat.frame hr' (fun x hx=>hq.out.block x (Dat.lt hr' x hx)) hq.out.size)).mono ?_;rintro e w2 ⟨rfl,hb2⟩;exact ⟨rfl,aI hq hb2⟩)
          | (simp only [↓IntWalk.iteOmega];exact ⟨hq,rfl⟩)
        simp only [Act.put,pz]))
    exact Zabc
   ·exact Zabo
 ·have hb1:((xs.length:Int) != (ys.length:Int)) = true:=by simp;omega
  have HL:=I' (qN (eq:=ou) hl);clear hl;go_enter Tryz.func32,Tryz.ntmps32;exact Zadc
def vN (a b:rZ):Bool:=(a.pack == b.pack)&&(a.spread == b.spread)&&(a.soft == b.soft)
theorem Zq (a b:rZ):vN a b = true↔a = b:=by
 constructor
 ·intro h;simp only [vN,Bool.and_eq_true] at h;have h0:=eq_of_beq h.1.1;have h1:=eq_of_beq h.1.2;have h2:=eq_of_beq h.2;exact Zadp
 ·rintro rfl;simp [vN, *]
theorem Zr (a b:rZ) (cs ds:List Value) (F G:List Nat) (w:World) (h:rd w a cs F) (h':rd w b ds G) :
 Calls Tryz.prog 34 #[.agg cs.toArray,.agg ds.toArray] w fun e w'=>e = .returned (.bool (vN a b))∧Below w.heap.size w w':=by
 obtain ⟨_,_,_,_,rfl,rfl,⟨rfl,rfl,ajz⟩,_,_,_,_,rfl,rfl,⟨rfl,rfl,abx⟩,⟨rfl,rfl,ajA⟩⟩:=h;replace ajz:I64 a.pack:=ajz;replace abx:I64 a.spread:=abx;replace ajA:I64 a.soft:=ajA;simp only [List.cons_append,List.nil_append];obtain ⟨_,_,_,_,rfl,rfl,⟨rfl,rfl,Sr⟩,_,_,_,_,rfl,rfl,⟨rfl,rfl,Jm⟩,⟨rfl,rfl,Sv⟩⟩:=h';replace Sr:I64 b.pack:=Sr;replace Jm:I64 b.spread:=Jm;replace Sv:I64 b.soft:=Sv;simp only [List.cons_append,List.nil_append];go_enter Tryz.func34,Tryz.ntmps34;go_wp2;all_goals go_ret
 all_goals refine ⟨?_,by repeat (first | with_reducible exact aj _ | with_reducible assumption | with_reducible refine ak ?_ _ | with_reducible refine ah ?_ Y')⟩
 all_goals (simp only [Bool.not_eq_true',Bool.not_eq_false',bne_iff_ne,bne_eq_false_iff_eq,beq_iff_eq,beq_eq_false_iff_ne,ne_eq] at *;simp [vN, *])
def lX (a b:Placed):Bool:=vF a.aS b.aS&&(a.on.toList == b.on.toList)&&(a.seq == b.seq)
theorem aby (a b:Placed):lX a b = true↔a = b:=by
 constructor
 ·intro h;simp only [lX,Bool.and_eq_true] at h;have h0:=(yh _ _).1 h.1.1;have h1:=Ce h.1.2;have h2:=eq_of_beq h.2;exact Zadp
 ·rintro rfl;have g0:=(yh a.aS a.aS).2 rfl;simp [lX, *]
theorem ajB (a b:Placed) (cs ds:List Value) (F G:List Nat) (w:World) (h:rd w a cs F) (h':rd w b ds G) :
 Calls Tryz.prog 77 #[.agg cs.toArray,.agg ds.toArray] w fun e w'=>e = .returned (.bool (lX a b))∧Below w.heap.size w w':=by
 obtain ⟨_,_,_,_,rfl,rfl,al4,_,_,_,_,rfl,rfl,⟨rfl,rfl,anH⟩,⟨rfl,rfl,afa⟩⟩:=h;have Vf:=al4;obtain ⟨pO,pR,EY,rH,rJ,He,kT,kU,yu,rfl,rfl,Dq,yw,FW,FX,Dt,Az,qH⟩:=dL al4;replace Dq:=rV (s:=a.aS.name) Dq;replace yw:Sl _ a.aS.labels pO pR _:=yw;replace FW:I64 a.aS.cpu:=FW;replace FX:I64 a.aS.mem:=FX;replace Dt:I64 a.aS.rank:=Dt;replace Az:Sl _ a.aS.needs rH rJ _:=Az;replace qH:Sl _ a.aS.tolerances kT kU _:=qH;replace anH:=rV (s:=a.on) anH;replace afa:I64 a.seq:=afa;replace Vf:rd _ a.aS [.string a.aS.name,.slice pO a.aS.labels.length pR,.int .i64 a.aS.cpu,.int .i64 a.aS.mem,.int .i64 a.aS.rank,.slice rH a.aS.needs.length rJ,.slice kT a.aS.tolerances.length kU] _:=Vf;simp only [List.cons_append,List.nil_append];obtain ⟨_,_,_,_,rfl,rfl,al5,_,_,_,_,rfl,rfl,⟨rfl,rfl,OW⟩,⟨rfl,rfl,Zt⟩⟩:=h';have ku:=al5;obtain ⟨mZ,ng,DX,oL,oM,FC,jG,jH,wu,rfl,rfl,Ci,wR,EM,EN,Cj,yU,pF⟩:=dL al5;replace Ci:=rV (s:=b.aS.name) Ci;replace wR:Sl _ b.aS.labels mZ ng _:=wR;replace EM:I64 b.aS.cpu:=EM;replace EN:I64 b.aS.mem:=EN;replace Cj:I64 b.aS.rank:=Cj;replace yU:Sl _ b.aS.needs oL oM _:=yU;replace pF:Sl _ b.aS.tolerances jG jH _:=pF;replace OW:=rV (s:=b.on) OW;replace Zt:I64 b.seq:=Zt;replace ku:rd _ b.aS [.string b.aS.name,.slice mZ b.aS.labels.length ng,.int .i64 b.aS.cpu,.int .i64 b.aS.mem,.int .i64 b.aS.rank,.slice oL b.aS.needs.length oM,.slice jG b.aS.tolerances.length jH] _:=ku;simp only [List.cons_append,List.nil_append];go_enter Tryz.func77,Tryz.ntmps77;go_wp2_with (first | (go_at_call 35;refine (yj a.aS b.aS _ _ _ _ _ (Dat.frame Vf (fun b hb=>(show Below w.heap.size w _ from atS).block b (Dat.lt Vf b hb)) (show Below w.heap.size w _ from atS).size) (Dat.frame ku (fun b hb=>(show Below w.heap.size w _ from atS).block b (Dat.lt ku b hb)) (show Below w.heap.size w _ from atS).size)).mono ?_;rintro e w0 ⟨rfl,hb0⟩;obtain ⟨hc0,hf0⟩:=ay hb0;have ahZ:w.heap.size < w0.heap.size:=(sq hb0.size);have al6:w.heap.size+1 < w0.heap.size:=(sq hb0.size)))
 all_goals go_ret
 all_goals refine ⟨?_,by repeat (first | with_reducible exact aj _ | with_reducible assumption | with_reducible refine ak ?_ _ | with_reducible refine ah ?_ Y')⟩
 all_goals (simp only [Bool.not_eq_true',Bool.not_eq_false',bne_iff_ne,bne_eq_false_iff_eq,beq_iff_eq,beq_eq_false_iff_ne,ne_eq] at *;simp [lX, *])
theorem ah0 (xs ys:List Placed) (A B:Option Addr) (c d:Nat) (F G:List Nat) (w:World) (h:Sl w xs A c F) (h':Sl w ys B d G) :
 Calls Tryz.prog 33 #[.slice A xs.length c,.slice B ys.length d] w fun e w'=>e = .returned (.bool (same lX xs ys))∧Below w.heap.size w w':=by
 have hc:=h.cap;unfold maxLen at hc;obtain ⟨hc1,hc2⟩:=hc;have hd:=h'.cap;unfold maxLen at hd;obtain ⟨hd1,hd2⟩:=hd;by_cases hl:xs.length = ys.length
 ·have HL:=I' hl;have hb1:((xs.length:Int) != (ys.length:Int)) = false:=by simp [hl]
  clear hl;go_enter Tryz.func33,Tryz.ntmps33;go_wp2;go_loopw [5] (fun i wr=>∃k:Nat,k≤xs.length∧i = .int .i64 k∧Hid (same lX (xs.take k) (ys.take k) = true)∧Below w.heap.size w wr) (fun i _=>xs.length - (intOf i).toNat)
  case atStart=>exact ⟨0,Nat.zero_le _,rfl,by show _ = true;simp [same],aj _⟩
  case round =>
   obtain ⟨k,hk,rfl,Heq,hbl⟩:=hrel;by_cases hlt:k < xs.length
   ·obtain ⟨b,o,ck,Fk,rfl,o9,hbs,hr,hsub,hc⟩:=(h.ext hbl).get hlt;have hlt':k < ys.length:=(by rw [← HL.out];exact hlt);obtain ⟨b',o',TY,Xw,rfl,Ht,hbs',hr',zQ,hc'⟩:=(h'.ext hbl).get hlt';obtain ⟨pO,pR,EY,rH,rJ,He,kT,kU,yu,hck,rfl,Dq,yw,FW,FX,Dt,Az,qH,anH,afa⟩:=kE hr;subst hck;obtain ⟨mZ,ng,DX,oL,oM,FC,jG,jH,wu,hck,rfl,Ci,wR,EM,EN,Cj,yU,pF,OW,Zt⟩:=kE hr';subst hck;have q0:wr.cell? ⟨b,o+k * 9,none⟩ = some (.string xs[k].aS.name):=(by exact hc 0 _ rfl);have q1:wr.cell? ⟨b,o+k * 9+1,none⟩ = some (.slice pO xs[k].aS.labels.length pR):=(by rw [Nat.add_assoc];exact hc 1 _ rfl);have q2:wr.cell? ⟨b,o+k * 9+2,none⟩ = some (.int .i64 xs[k].aS.cpu):=(by rw [Nat.add_assoc];exact hc 2 _ rfl);have q3:wr.cell? ⟨b,o+k * 9+3,none⟩ = some (.int .i64 xs[k].aS.mem):=(by rw [Nat.add_assoc];exact hc 3 _ rfl);have q4:wr.cell? ⟨b,o+k * 9+4,none⟩ = some (.int .i64 xs[k].aS.rank):=(by rw [Nat.add_assoc];exact hc 4 _ rfl);have q5:wr.cell? ⟨b,o+k * 9+5,none⟩ = some (.slice rH xs[k].aS.needs.length rJ):=(by rw [Nat.add_assoc];exact hc 5 _ rfl);have q6:wr.cell? ⟨b,o+k * 9+6,none⟩ = some (.slice kT xs[k].aS.tolerances.length kU):=(by rw [Nat.add_assoc];exact hc 6 _ rfl);have q7:wr.cell? ⟨b,o+k * 9+7,none⟩ = some (.string xs[k].on):=(by rw [Nat.add_assoc];exact hc 7 _ rfl);have q8:wr.cell? ⟨b,o+k * 9+8,none⟩ = some (.int .i64 xs[k].seq):=(by rw [Nat.add_assoc];exact hc 8 _ rfl);have p0:wr.cell? ⟨b',o'+k * 9,none⟩ = some (.string ys[k].aS.name):=(by exact hc' 0 _ rfl);have p1:wr.cell? ⟨b',o'+k * 9+1,none⟩ = some (.slice mZ ys[k].aS.labels.length ng):=(by rw [Nat.add_assoc];exact hc' 1 _ rfl);have p2:wr.cell? ⟨b',o'+k * 9+2,none⟩ = some (.int .i64 ys[k].aS.cpu):=(by rw [Nat.add_assoc];exact hc' 2 _ rfl);have p3:wr.cell? ⟨b',o'+k * 9+3,none⟩ = some (.int .i64 ys[k].aS.mem):=(by rw [Nat.add_assoc];exact hc' 3 _ rfl);have p4:wr.cell? ⟨b',o'+k * 9+4,none⟩ = some (.int .i64 ys[k].aS.rank):=(by rw [Nat.add_assoc];exact hc' 4 _ rfl);have p5:wr.cell? ⟨b',o'+k * 9+5,none⟩ = some (.slice oL ys[k].aS.needs.length oM):=(by rw [Nat.add_assoc];exact hc' 5 _ rfl);have p6:wr.cell? ⟨b',o'+k * 9+6,none⟩ = some (.slice jG ys[k].aS.tolerances.length jH):=(by rw [Nat.add_assoc];exact hc' 6 _ rfl);have p7:wr.cell? ⟨b',o'+k * 9+7,none⟩ = some (.string ys[k].on):=(by rw [Nat.add_assoc];exact hc' 7 _ rfl);have p8:wr.cell? ⟨b',o'+k * 9+8,none⟩ = some (.int .i64 ys[k].seq):=(by rw [Nat.add_assoc];exact hc' 8 _ rfl);clear hc hc';go_wp2_with fail
    refine aF wr U' U' auj ?_
    repeat (first
     | (apply aG
        case hw=>rfl
        simp only [Act.put,pz])
     | (apply aH
        case hw=>rfl
        case h =>
         intro wq hq;have hcq:=(aB hq).1;have lJ:=(aB hq).2;go_simp
         first
          | exact ⟨hq,rfl⟩
          | exact ⟨aQ hq _,rfl⟩
          | (refine (ajB xs[k] ys[k] _ _ _ _ _ (Dat.frame hr (fun x hx=>hq.out.block x (Dat.lt hr x hx)) hq.out.size) (Dat.frame hr' (fun x hx=>hq.out.block x (Dat.lt hr' x hx)) hq.out.size)).mono ?_;rintro e w2 ⟨rfl,hb2⟩;exact ⟨rfl,aI hq hb2⟩)
          | (simp only [↓IntWalk.iteOmega];exact ⟨hq,rfl⟩)
        simp only [Act.put,pz]))
    exact Zabc
   ·exact Zabo
 ·have hb1:((xs.length:Int) != (ys.length:Int)) = true:=by simp;omega
  have HL:=I' (qN (eq:=lX) hl);clear hl;go_enter Tryz.func33,Tryz.ntmps33;exact Zadc
def lT (a b:aU):Bool:=same ou a.hosts b.hosts&&same lX a.au b.au&&(a.next == b.next)&&vN a.weights b.weights
theorem jI (a b:aU):lT a b = true↔a = b:=by
 constructor
 ·intro h;simp only [lT,Bool.and_eq_true] at h;have h0:=(same_iff LW _ _).1 h.1.1.1;have h1:=(same_iff aby _ _).1 h.1.1.2;have h2:=eq_of_beq h.1.2;have h3:=(Zq _ _).1 h.2;cases a;cases b
  simp only at h0 h1 h2 h3;subst h0 h1 h2 h3;rfl
 ·rintro rfl;have g0:=(same_iff LW a.hosts a.hosts).2 rfl;have g1:=(same_iff aby a.au a.au).2 rfl;have g3:=(Zq a.weights a.weights).2 rfl;simp [lT, *]
theorem gY (a b:aU) (cs ds:List Value) (F G:List Nat) (w:World) (h:rd w a cs F) (h':rd w b ds G) :
 Calls Tryz.prog 10 #[.agg cs.toArray,.agg ds.toArray] w fun e w'=>e = .returned (.bool (lT a b))∧Below w.heap.size w w':=by
 obtain ⟨_,_,_,_,rfl,rfl,oO,_,_,_,_,rfl,rfl,tq,_,_,_,_,rfl,rfl,⟨rfl,rfl,wI⟩,aiL⟩:=h;obtain ⟨dG,bV,rfl,oO⟩:=jB oO;obtain ⟨dS,dJ,rfl,tq⟩:=jB tq;have Vg:=aiL;obtain ⟨rfl,rfl,iV,gI,iW⟩:=mg aiL;replace oO:Sl _ a.hosts dG bV _:=oO;replace tq:Sl _ a.au dS dJ _:=tq;replace wI:I64 a.next:=wI;replace iV:I64 a.weights.pack:=iV;replace gI:I64 a.weights.spread:=gI;replace iW:I64 a.weights.soft:=iW;replace Vg:rd _ a.weights [.int .i64 a.weights.pack,.int .i64 a.weights.spread,.int .i64 a.weights.soft] _:=Vg;simp only [List.cons_append,List.nil_append];obtain ⟨_,_,_,_,rfl,rfl,tJ,_,_,_,_,rfl,rfl,yV,_,_,_,_,rfl,rfl,⟨rfl,rfl,FD⟩,aiM⟩:=h';obtain ⟨tK,tN,rfl,tJ⟩:=jB tJ;obtain ⟨yJ,yK,rfl,yV⟩:=jB yV;have Vh:=aiM;obtain ⟨rfl,rfl,mO,kW,mP⟩:=mg aiM;replace tJ:Sl _ b.hosts tK tN _:=tJ;replace yV:Sl _ b.au yJ yK _:=yV;replace FD:I64 b.next:=FD;replace mO:I64 b.weights.pack:=mO;replace kW:I64 b.weights.spread:=kW;replace mP:I64 b.weights.soft:=mP;replace Vh:rd _ b.weights [.int .i64 b.weights.pack,.int .i64 b.weights.spread,.int .i64 b.weights.soft] _:=Vh;simp only [List.cons_append,List.nil_append];go_enter Tryz.func10,Tryz.ntmps10;go_wp2_with (first | (go_at_call 32;refine (al3 a.hosts b.hosts _ _ _ _ _ _ _ (oO.ext atS) (tJ.ext atS)).mono ?_;rintro e w0 ⟨rfl,hb0⟩;obtain ⟨hc0,hf0⟩:=ay hb0;have ahZ:w.heap.size < w0.heap.size:=(sq hb0.size);have al6:w.heap.size+1 < w0.heap.size:=(sq hb0.size)) | (go_at_call 33;refine (ah0 a.au b.au _ _ _ _ _ _ _ (tq.ext atS) (yV.ext atS)).mono ?_;rintro e w1 ⟨rfl,hb1⟩;obtain ⟨hc1,hf1⟩:=ay hb1;have zO:w.heap.size < w1.heap.size:=(sq hb1.size);have CO:w.heap.size+1 < w1.heap.size:=(sq hb1.size)) | (go_at_call 34;refine (Zr a.weights b.weights _ _ _ _ _ (Dat.frame Vg (fun b hb=>(show Below w.heap.size w _ from atS).block b (Dat.lt Vg b hb)) (show Below w.heap.size w _ from atS).size) (Dat.frame Vh (fun b hb=>(show Below w.heap.size w _ from atS).block b (Dat.lt Vh b hb)) (show Below w.heap.size w _ from atS).size)).mono ?_;rintro e w3 ⟨rfl,hb3⟩;obtain ⟨hc3,hf3⟩:=ay hb3;have hz30:w.heap.size < w3.heap.size:=(sq hb3.size);have hz31:w.heap.size+1 < w3.heap.size:=(sq hb3.size)))
 all_goals go_ret
 all_goals refine ⟨?_,by repeat (first | with_reducible exact aj _ | with_reducible assumption | with_reducible refine ak ?_ _ | with_reducible refine ah ?_ Y')⟩
 all_goals (simp only [Bool.not_eq_true',Bool.not_eq_false',bne_iff_ne,bne_eq_false_iff_eq,beq_iff_eq,beq_eq_false_iff_ne,ne_eq] at *;simp [lT, *])
def Hu (a b:Manifest):Bool:=(a.kind == b.kind)&&vF a.aS b.aS&&ou a.host b.host
theorem aqM (a b:Manifest):Hu a b = true↔a = b:=by
 constructor
 ·intro h;simp only [Hu,Bool.and_eq_true] at h;have h0:=eq_of_beq h.1.1;have h1:=(yh _ _).1 h.1.2;have h2:=(LW _ _).1 h.2;exact Zadp
 ·rintro rfl;have g1:=(yh a.aS a.aS).2 rfl;have g2:=(LW a.host a.host).2 rfl;simp [Hu, *]
theorem afA (a b:Manifest) (cs ds:List Value) (F G:List Nat) (w:World) (h:rd w a cs F) (h':rd w b ds G) :
 Calls Tryz.prog 11 #[.agg cs.toArray,.agg ds.toArray] w fun e w'=>e = .returned (.bool (Hu a b))∧Below w.heap.size w w':=by
 obtain ⟨_,_,_,_,rfl,rfl,⟨rfl,rfl,BA⟩,_,_,_,_,rfl,rfl,al4,aqN⟩:=h;have Vf:=al4;obtain ⟨pO,pR,EY,rH,rJ,He,kT,kU,yu,rfl,rfl,Dq,yw,FW,FX,Dt,Az,qH⟩:=dL al4;have ae0:=aqN;obtain ⟨Ip,Iq,abz,Ir,Iu,abA,rfl,rfl,Vj,OY,YI,YJ,Rf,OZ⟩:=iy aqN;replace BA:I64 a.kind:=BA;replace Dq:=rV (s:=a.aS.name) Dq;replace yw:Sl _ a.aS.labels pO pR _:=yw;replace FW:I64 a.aS.cpu:=FW;replace FX:I64 a.aS.mem:=FX;replace Dt:I64 a.aS.rank:=Dt;replace Az:Sl _ a.aS.needs rH rJ _:=Az;replace qH:Sl _ a.aS.tolerances kT kU _:=qH;replace Vj:=rV (s:=a.host.name) Vj;replace OY:Sl _ a.host.labels Ip Iq _:=OY;replace YI:I64 a.host.cpu:=YI;replace YJ:I64 a.host.mem:=YJ;replace Rf:I64 a.host.slots:=Rf;replace OZ:Sl _ a.host.aT Ir Iu _:=OZ;replace Vf:rd _ a.aS [.string a.aS.name,.slice pO a.aS.labels.length pR,.int .i64 a.aS.cpu,.int .i64 a.aS.mem,.int .i64 a.aS.rank,.slice rH a.aS.needs.length rJ,.slice kT a.aS.tolerances.length kU] _:=Vf;replace ae0:rd _ a.host [.string a.host.name,.slice Ip a.host.labels.length Iq,.int .i64 a.host.cpu,.int .i64 a.host.mem,.int .i64 a.host.slots,.slice Ir a.host.aT.length Iu] _:=ae0;simp only [List.cons_append,List.nil_append];obtain ⟨_,_,_,_,rfl,rfl,⟨rfl,rfl,LX⟩,_,_,_,_,rfl,rfl,al5,aqO⟩:=h';have ku:=al5;obtain ⟨mZ,ng,DX,oL,oM,FC,jG,jH,wu,rfl,rfl,Ci,wR,EM,EN,Cj,yU,pF⟩:=dL al5;have ae1:=aqO;obtain ⟨DY,DZ,abB,D5,D6,abC,rfl,rfl,Vk,O0,YK,YL,Rh,O1⟩:=iy aqO;replace LX:I64 b.kind:=LX;replace Ci:=rV (s:=b.aS.name) Ci;replace wR:Sl _ b.aS.labels mZ ng _:=wR;replace EM:I64 b.aS.cpu:=EM;replace EN:I64 b.aS.mem:=EN;replace Cj:I64 b.aS.rank:=Cj;replace yU:Sl _ b.aS.needs oL oM _:=yU;replace pF:Sl _ b.aS.tolerances jG jH _:=pF;replace Vk:=rV (s:=b.host.name) Vk;replace O0:Sl _ b.host.labels DY DZ _:=O0;replace YK:I64 b.host.cpu:=YK;replace YL:I64 b.host.mem:=YL;replace Rh:I64 b.host.slots:=Rh;replace O1:Sl _ b.host.aT D5 D6 _:=O1;replace ku:rd _ b.aS [.string b.aS.name,.slice mZ b.aS.labels.length ng,.int .i64 b.aS.cpu,.int .i64 b.aS.mem,.int .i64 b.aS.rank,.slice oL b.aS.needs.length oM,.slice jG b.aS.tolerances.length jH] _:=ku;replace ae1:rd _ b.host [.string b.host.name,.slice DY b.host.labels.length DZ,.int .i64 b.host.cpu,.int .i64 b.host.mem,.int .i64 b.host.slots,.slice D5 b.host.aT.length D6] _:=ae1;simp only [List.cons_append,List.nil_append];go_enter Tryz.func11,Tryz.ntmps11;go_wp2_with (first | (go_at_call 35;refine (yj a.aS b.aS _ _ _ _ _ (Dat.frame Vf (fun b hb=>(show Below w.heap.size w _ from atS).block b (Dat.lt Vf b hb)) (show Below w.heap.size w _ from atS).size) (Dat.frame ku (fun b hb=>(show Below w.heap.size w _ from atS).block b (Dat.lt ku b hb)) (show Below w.heap.size w _ from atS).size)).mono ?_;rintro e w1 ⟨rfl,hb1⟩;obtain ⟨hc1,hf1⟩:=ay hb1;have zO:w.heap.size < w1.heap.size:=(sq hb1.size);have CO:w.heap.size+1 < w1.heap.size:=(sq hb1.size)) | (go_at_call 36;refine (Qd a.host b.host _ _ _ _ _ (Dat.frame ae0 (fun b hb=>(show Below w.heap.size w _ from atS).block b (Dat.lt ae0 b hb)) (show Below w.heap.size w _ from atS).size) (Dat.frame ae1 (fun b hb=>(show Below w.heap.size w _ from atS).block b (Dat.lt ae1 b hb)) (show Below w.heap.size w _ from atS).size)).mono ?_;rintro e w2 ⟨rfl,hb2⟩;obtain ⟨hc2,hf2⟩:=ay hb2;have al0:w.heap.size < w2.heap.size:=(sq hb2.size);have hz21:w.heap.size+1 < w2.heap.size:=(sq hb2.size)))
 all_goals go_ret
 all_goals refine ⟨?_,by repeat (first | with_reducible exact aj _ | with_reducible assumption | with_reducible refine ak ?_ _ | with_reducible refine ah ?_ Y')⟩
 all_goals (simp only [Bool.not_eq_true',Bool.not_eq_false',bne_iff_ne,bne_eq_false_iff_eq,beq_iff_eq,beq_eq_false_iff_ne,ne_eq] at *;simp [Hu, *])
end Go.Proofs.YtkbkikggodlbbaaGreat
