/- laws' comparisons. -/
import Derived.Test.YtnedlmlpeplnfaaGreatData
import Derived.Test.YtnedlmlpeplnfaaGreatRegion
namespace Go.Proofs.YtnedlmlpeplnfaaGreat
open Go.ChangeShapes Go.WideShapes Go.ChangeAt Go.RowKit
set_option linter.unusedVariables false
set_option linter.unusedSimpArgs false
set_option maxHeartbeats 1000000
theorem Ce {a b:ByteArray} (h:(a.toList == b.toList) = true):a = b:=by
 have h1:a.toList = b.toList:=by simpa using h
 have h2:a.data.toList = b.data.toList:=by rw [← ByteArray.toList_eq,← ByteArray.toList_eq];exact h1
 cases a;cases b;simp_all
def eqStr (a b:ByteArray):Bool:=a.toList == b.toList
def Am (a b:Int):Bool:=a == b
theorem PW (a b:ByteArray):eqStr a b = true↔a = b:=⟨Ce,fun h=>by subst h;simp [eqStr]⟩
def same {α:Type} (eq:α→α→Bool):List α→List α→Bool
 | [],[]=>true
 | a :: l,b :: m=>eq a b&&same eq l m
 | _,_=>false
theorem qN {α:Type} {eq:α→α→Bool} : ∀{l m:List α},l.length≠m.length→same eq l m = false
 | [],[],h=>absurd rfl h
 | [],_ :: _,_=>rfl
 | _ :: _,[],_=>rfl
 | a :: l,b :: m,h=>by simp only [same];rw [qN (l:=l) (m:=m) avp];simp
theorem iC {α:Type} {eq:α→α→Bool} {l m:List α} {k:Nat} (h:k < l.length) (h':k < m.length):same eq (l.take (k+1)) (m.take (k+1)) = (same eq (l.take k) (m.take k)&&eq l[k] m[k]):=by
 induction k generalizing l m with
 | zero =>
   cases l with
   | nil=>simp at h
   | cons a l =>
     cases m with
     | nil=>simp at h'
     | cons b m=>simp [same]
 | succ k ih =>
   cases l with
   | nil=>simp at h
   | cons a l =>
     cases m with
     | nil=>simp at h'
     | cons b m =>simp only [List.take_succ_cons,same];rw [ih avp (by simpa using h'),Bool.and_assoc];simp
theorem nP {α:Type} {eq:α→α→Bool} {l m:List α} (k:Nat) (h:same eq (l.take k) (m.take k) = false) (hl:l.length = m.length):same eq l m = false:=by
 induction k generalizing l m with
 | zero=>simp [same] at h
 | succ k ih =>cases l <;> cases m <;> simp_all [same]
theorem same_iff {α:Type} {eq:α→α→Bool} (h:∀a b,eq a b = true↔a = b):∀(l m:List α),same eq l m = true↔l = m
 | [],[]=>by simp [same]
 | [],_ :: _=>by simp [same]
 | _ :: _,[]=>by simp [same]
 | a :: l,b :: m=>by simp [same,h,same_iff h l m]
theorem qV (xs ys:List ByteArray) (A B:Option Addr) (c d:Nat) (F G:List Nat) (w:World) (h:Sl w xs A c F) (h':Sl w ys B d G) :
 Calls Tryz.prog 156 #[.slice A xs.length c,.slice B ys.length d] w fun e w'=>e = .returned (.bool (same eqStr xs ys))∧Below w.heap.size w w':=by
 have hc:=h.cap;unfold maxLen at hc;obtain ⟨hc1,hc2⟩:=hc;have hd:=h'.cap;unfold maxLen at hd;obtain ⟨hd1,hd2⟩:=hd;by_cases hl:xs.length = ys.length
 ·have HL:=I' hl;have hb1:((xs.length:Int) != (ys.length:Int)) = false:=by simp [hl]
  clear hl;go_enter Tryz.func156,Tryz.ntmps156;go_wp2;go_loopw [5] (fun i wr=>∃k:Nat,k≤xs.length∧i = .int .i64 k∧Hid (same eqStr (xs.take k) (ys.take k) = true)∧Below w.heap.size w wr) (fun i _=>xs.length - (intOf i).toNat)
  case atStart=>exact ⟨0,Nat.zero_le _,rfl,by show _ = true;simp [same],aj _⟩
  case round =>
   obtain ⟨k,hk,rfl,Heq,hbl⟩:=hrel;by_cases hlt:k < xs.length
   ·obtain ⟨b,o,ck,Fk,rfl,o9,hbs,hr,hsub,hc⟩:=(h.ext hbl).get hlt;have hlt':k < ys.length:=(by rw [← HL.out];exact hlt);obtain ⟨b',o',TY,Xw,rfl,Ht,hbs',hr',zQ,hc'⟩:=(h'.ext hbl).get hlt';obtain ⟨rfl,rfl,_⟩:=hr;obtain ⟨rfl,rfl,_⟩:=hr';have q0:wr.cell? ⟨b,o+k,none⟩ = some (.string xs[k]):=(by have:=hc 0 _ rfl;simpa [Dat.size] using this);have p0:wr.cell? ⟨b',o'+k,none⟩ = some (.string ys[k]):=(by have:=hc' 0 _ rfl;simpa [Dat.size] using this);clear hc hc';go_wp2_with fail
    refine aF wr U' U' auj ?_
    repeat (first
     | (apply aG
        case hw=>rfl
        simp only [Act.put,pz])
     | (apply aH
        case hw=>rfl
        case h =>exact Zaag
        simp only [Act.put,pz]))
    exact Zaas
   ·exact Zaap
 ·have hb1:((xs.length:Int) != (ys.length:Int)) = true:=by simp;omega
  have HL:=I' (qN (eq:=eqStr) hl);clear hl;go_enter Tryz.func156,Tryz.ntmps156;exact Zabz
def vZ (a b:Label):Bool:=(a.key.toList == b.key.toList)&&(a.value.toList == b.value.toList)
theorem J8 (a b:Label):vZ a b = true↔a = b:=by
 constructor
 ·intro h;simp only [vZ,Bool.and_eq_true] at h;have h0:=Ce h.1;have h1:=Ce h.2;cases a;cases b
  simp only at h0 h1;subst h0 h1;rfl
 ·rintro rfl;simp [vZ, *]
theorem alZ (a b:Label) (cs ds:List Value) (F G:List Nat) (w:World) (h:rd w a cs F) (h':rd w b ds G) :
 Calls Tryz.prog 121 #[.agg cs.toArray,.agg ds.toArray] w fun e w'=>e = .returned (.bool (vZ a b))∧Below w.heap.size w w':=by
 obtain ⟨_,_,_,_,rfl,rfl,⟨rfl,rfl,xO⟩,⟨rfl,rfl,xk⟩⟩:=h;replace xO:=rV (s:=a.key) xO;replace xk:=rV (s:=a.value) xk;simp only [List.cons_append,List.nil_append];obtain ⟨_,_,_,_,rfl,rfl,⟨rfl,rfl,vC⟩,⟨rfl,rfl,rP⟩⟩:=h';replace vC:=rV (s:=b.key) vC;replace rP:=rV (s:=b.value) rP;simp only [List.cons_append,List.nil_append];go_enter Tryz.func121,Tryz.ntmps121;go_wp2;all_goals go_ret
 all_goals refine ⟨?_,by repeat (first | with_reducible exact aj _ | with_reducible assumption | with_reducible refine ak ?_ _ | with_reducible refine ah ?_ Y')⟩
 all_goals (simp only [Bool.not_eq_true',Bool.not_eq_false',bne_iff_ne,bne_eq_false_iff_eq,beq_iff_eq,beq_eq_false_iff_ne,ne_eq] at *;simp [vZ, *])
theorem KJ (xs ys:List Label) (A B:Option Addr) (c d:Nat) (F G:List Nat) (w:World) (h:Sl w xs A c F) (h':Sl w ys B d G) :
 Calls Tryz.prog 62 #[.slice A xs.length c,.slice B ys.length d] w fun e w'=>e = .returned (.bool (same vZ xs ys))∧Below w.heap.size w w':=by
 have hc:=h.cap;unfold maxLen at hc;obtain ⟨hc1,hc2⟩:=hc;have hd:=h'.cap;unfold maxLen at hd;obtain ⟨hd1,hd2⟩:=hd;by_cases hl:xs.length = ys.length
 ·have HL:=I' hl;have hb1:((xs.length:Int) != (ys.length:Int)) = false:=by simp [hl]
  clear hl;go_enter Tryz.func62,Tryz.ntmps62;go_wp2;go_loopw [5] (fun i wr=>∃k:Nat,k≤xs.length∧i = .int .i64 k∧Hid (same vZ (xs.take k) (ys.take k) = true)∧Below w.heap.size w wr) (fun i _=>xs.length - (intOf i).toNat)
  case atStart=>exact ⟨0,Nat.zero_le _,rfl,by show _ = true;simp [same],aj _⟩
  case round =>
   obtain ⟨k,hk,rfl,Heq,hbl⟩:=hrel;by_cases hlt:k < xs.length
   ·obtain ⟨b,o,ck,Fk,rfl,o9,hbs,hr,hsub,hc⟩:=(h.ext hbl).get hlt;have hlt':k < ys.length:=(by rw [← HL.out];exact hlt);obtain ⟨b',o',TY,Xw,rfl,Ht,hbs',hr',zQ,hc'⟩:=(h'.ext hbl).get hlt';obtain ⟨hck,rfl,xO,xk⟩:=vO hr;subst hck;obtain ⟨hck,rfl,vC,rP⟩:=vO hr';subst hck;have q0:wr.cell? ⟨b,o+k * 2,none⟩ = some (.string xs[k].key):=(by exact hc 0 _ rfl);have q1:wr.cell? ⟨b,o+k * 2+1,none⟩ = some (.string xs[k].value):=(by rw [Nat.add_assoc];exact hc 1 _ rfl);have p0:wr.cell? ⟨b',o'+k * 2,none⟩ = some (.string ys[k].key):=(by exact hc' 0 _ rfl);have p1:wr.cell? ⟨b',o'+k * 2+1,none⟩ = some (.string ys[k].value):=(by rw [Nat.add_assoc];exact hc' 1 _ rfl);clear hc hc';go_wp2_with fail
    refine aF wr U' U' auj ?_
    repeat (first
     | (apply aG
        case hw=>rfl
        simp only [Act.put,pz])
     | (apply aH
        case hw=>rfl
        case h =>
         intro wq hq;have hcq:=(aB hq).1;have lJ:=(aB hq).2;go_simp
         first
          | exact ⟨hq,rfl⟩
          | exact ⟨aQ hq _,rfl⟩
          | (refine (alZ xs[k] ys[k] _ _ _ _ _ (Dat.frame hr (fun x hx=>hq.out.block x (Dat.lt hr x hx)) hq.out.size) (Dat.frame hr' (fun x hx=>hq.out.block x (Dat.lt hr' x hx)) hq.out.size)).mono ?_;rintro e w2 ⟨rfl,hb2⟩;exact ⟨rfl,aI hq hb2⟩)
          | (simp only [↓IntWalk.iteOmega];exact ⟨hq,rfl⟩)
        simp only [Act.put,pz]))
    exact Zaas
   ·exact Zaap
 ·have hb1:((xs.length:Int) != (ys.length:Int)) = true:=by simp;omega
  have HL:=I' (qN (eq:=vZ) hl);clear hl;go_enter Tryz.func62,Tryz.ntmps62;exact Zabz
def yI (a b:Need):Bool:=(a.key.toList == b.key.toList)&&(a.op == b.op)&&same eqStr a.values b.values
theorem aas (a b:Need):yI a b = true↔a = b:=by
 constructor
 ·intro h;simp only [yI,Bool.and_eq_true] at h;have h0:=Ce h.1.1;have h1:=eq_of_beq h.1.2;have h2:=(same_iff PW _ _).1 h.2;cases a;cases b
  simp only at h0 h1 h2;subst h0 h1 h2;rfl
 ·rintro rfl;have g2:=(same_iff PW a.values a.values).2 rfl;simp [yI, *]
theorem anW (a b:Need) (cs ds:List Value) (F G:List Nat) (w:World) (h:rd w a cs F) (h':rd w b ds G) :
 Calls Tryz.prog 122 #[.agg cs.toArray,.agg ds.toArray] w fun e w'=>e = .returned (.bool (yI a b))∧Below w.heap.size w w':=by
 obtain ⟨_,_,_,_,rfl,rfl,⟨rfl,rfl,xO⟩,_,_,_,_,rfl,rfl,⟨rfl,rfl,hop1⟩,wO⟩:=h;obtain ⟨pX,pY,rfl,wO⟩:=jB wO;replace xO:=rV (s:=a.key) xO;replace hop1:I64 a.op:=hop1;replace wO:Sl _ a.values pX pY _:=wO;simp only [List.cons_append,List.nil_append];obtain ⟨_,_,_,_,rfl,rfl,⟨rfl,rfl,vC⟩,_,_,_,_,rfl,rfl,⟨rfl,rfl,hop2⟩,zS⟩:=h';obtain ⟨qO,qP,rfl,zS⟩:=jB zS;replace vC:=rV (s:=b.key) vC;replace hop2:I64 b.op:=hop2;replace zS:Sl _ b.values qO qP _:=zS;simp only [List.cons_append,List.nil_append];go_enter Tryz.func122,Tryz.ntmps122;go_wp2_with (first | (go_at_call 156;refine (qV a.values b.values _ _ _ _ _ _ _ (wO.ext atS) (zS.ext atS)).mono ?_;rintro e w2 ⟨rfl,hb2⟩;obtain ⟨hc2,hf2⟩:=ay hb2;have al0:w.heap.size < w2.heap.size:=(sq hb2.size);have hz21:w.heap.size+1 < w2.heap.size:=(sq hb2.size)))
 all_goals go_ret
 all_goals refine ⟨?_,by repeat (first | with_reducible exact aj _ | with_reducible assumption | with_reducible refine ak ?_ _ | with_reducible refine ah ?_ Y')⟩
 all_goals (simp only [Bool.not_eq_true',Bool.not_eq_false',bne_iff_ne,bne_eq_false_iff_eq,beq_iff_eq,beq_eq_false_iff_ne,ne_eq] at *;simp [yI, *])
theorem al1 (xs ys:List Need) (A B:Option Addr) (c d:Nat) (F G:List Nat) (w:World) (h:Sl w xs A c F) (h':Sl w ys B d G) :
 Calls Tryz.prog 63 #[.slice A xs.length c,.slice B ys.length d] w fun e w'=>e = .returned (.bool (same yI xs ys))∧Below w.heap.size w w':=by
 have hc:=h.cap;unfold maxLen at hc;obtain ⟨hc1,hc2⟩:=hc;have hd:=h'.cap;unfold maxLen at hd;obtain ⟨hd1,hd2⟩:=hd;by_cases hl:xs.length = ys.length
 ·have HL:=I' hl;have hb1:((xs.length:Int) != (ys.length:Int)) = false:=by simp [hl]
  clear hl;go_enter Tryz.func63,Tryz.ntmps63;go_wp2;go_loopw [5] (fun i wr=>∃k:Nat,k≤xs.length∧i = .int .i64 k∧Hid (same yI (xs.take k) (ys.take k) = true)∧Below w.heap.size w wr) (fun i _=>xs.length - (intOf i).toNat)
  case atStart=>exact ⟨0,Nat.zero_le _,rfl,by show _ = true;simp [same],aj _⟩
  case round =>
   obtain ⟨k,hk,rfl,Heq,hbl⟩:=hrel;by_cases hlt:k < xs.length
   ·obtain ⟨b,o,ck,Fk,rfl,o9,hbs,hr,hsub,hc⟩:=(h.ext hbl).get hlt;have hlt':k < ys.length:=(by rw [← HL.out];exact hlt);obtain ⟨b',o',TY,Xw,rfl,Ht,hbs',hr',zQ,hc'⟩:=(h'.ext hbl).get hlt';obtain ⟨pX,pY,KG,hck,rfl,xO,hop1,wO⟩:=og hr;subst hck;obtain ⟨qO,qP,KL,hck,rfl,vC,hop2,zS⟩:=og hr';subst hck;have q0:wr.cell? ⟨b,o+k * 3,none⟩ = some (.string xs[k].key):=(by exact hc 0 _ rfl);have q1:wr.cell? ⟨b,o+k * 3+1,none⟩ = some (.int .i64 xs[k].op):=(by rw [Nat.add_assoc];exact hc 1 _ rfl);have q2:wr.cell? ⟨b,o+k * 3+2,none⟩ = some (.slice pX xs[k].values.length pY):=(by rw [Nat.add_assoc];exact hc 2 _ rfl);have p0:wr.cell? ⟨b',o'+k * 3,none⟩ = some (.string ys[k].key):=(by exact hc' 0 _ rfl);have p1:wr.cell? ⟨b',o'+k * 3+1,none⟩ = some (.int .i64 ys[k].op):=(by rw [Nat.add_assoc];exact hc' 1 _ rfl);have p2:wr.cell? ⟨b',o'+k * 3+2,none⟩ = some (.slice qO ys[k].values.length qP):=(by rw [Nat.add_assoc];exact hc' 2 _ rfl);clear hc hc';go_wp2_with fail
    refine aF wr U' U' auj ?_
    repeat (first
     | (apply aG
        case hw=>rfl
        simp only [Act.put,pz])
     | (apply aH
        case hw=>rfl
        case h =>
         intro wq hq;have hcq:=(aB hq).1;have lJ:=(aB hq).2;go_simp
         first
          | exact ⟨hq,rfl⟩
          | exact ⟨aQ hq _,rfl⟩
          | (refine (anW xs[k] ys[k] _ _ _ _ _ (Dat.frame hr (fun x hx=>hq.out.block x (Dat.lt hr x hx)) hq.out.size) (Dat.frame hr' (fun x hx=>hq.out.block x (Dat.lt hr' x hx)) hq.out.size)).mono ?_;rintro e w2 ⟨rfl,hb2⟩;exact ⟨rfl,aI hq hb2⟩)
          | (simp only [↓IntWalk.iteOmega];exact ⟨hq,rfl⟩)
        simp only [Act.put,pz]))
    exact Zaas
   ·exact Zaap
 ·have hb1:((xs.length:Int) != (ys.length:Int)) = true:=by simp;omega
  have HL:=I' (qN (eq:=yI) hl);clear hl;go_enter Tryz.func63,Tryz.ntmps63;exact Zabz
def Aq (a b:iU):Bool:=(a.key.toList == b.key.toList)&&(a.value.toList == b.value.toList)&&(a.effect == b.effect)
theorem Xx (a b:iU):Aq a b = true↔a = b:=by
 constructor
 ·intro h;simp only [Aq,Bool.and_eq_true] at h;have h0:=Ce h.1.1;have h1:=Ce h.1.2;have h2:=eq_of_beq h.2;cases a;cases b
  simp only at h0 h1 h2;subst h0 h1 h2;rfl
 ·rintro rfl;simp [Aq, *]
theorem adH (a b:iU) (cs ds:List Value) (F G:List Nat) (w:World) (h:rd w a cs F) (h':rd w b ds G) :
 Calls Tryz.prog 124 #[.agg cs.toArray,.agg ds.toArray] w fun e w'=>e = .returned (.bool (Aq a b))∧Below w.heap.size w w':=by
 obtain ⟨_,_,_,_,rfl,rfl,⟨rfl,rfl,xO⟩,_,_,_,_,rfl,rfl,⟨rfl,rfl,xk⟩,⟨rfl,rfl,zT⟩⟩:=h;replace xO:=rV (s:=a.key) xO;replace xk:=rV (s:=a.value) xk;replace zT:I64 a.effect:=zT;simp only [List.cons_append,List.nil_append];obtain ⟨_,_,_,_,rfl,rfl,⟨rfl,rfl,vC⟩,_,_,_,_,rfl,rfl,⟨rfl,rfl,rP⟩,⟨rfl,rfl,uY⟩⟩:=h';replace vC:=rV (s:=b.key) vC;replace rP:=rV (s:=b.value) rP;replace uY:I64 b.effect:=uY;simp only [List.cons_append,List.nil_append];go_enter Tryz.func124,Tryz.ntmps124;go_wp2;all_goals go_ret
 all_goals refine ⟨?_,by repeat (first | with_reducible exact aj _ | with_reducible assumption | with_reducible refine ak ?_ _ | with_reducible refine ah ?_ Y')⟩
 all_goals (simp only [Bool.not_eq_true',Bool.not_eq_false',bne_iff_ne,bne_eq_false_iff_eq,beq_iff_eq,beq_eq_false_iff_ne,ne_eq] at *;simp [Aq, *])
theorem ajy (xs ys:List iU) (A B:Option Addr) (c d:Nat) (F G:List Nat) (w:World) (h:Sl w xs A c F) (h':Sl w ys B d G) :
 Calls Tryz.prog 65 #[.slice A xs.length c,.slice B ys.length d] w fun e w'=>e = .returned (.bool (same Aq xs ys))∧Below w.heap.size w w':=by
 have hc:=h.cap;unfold maxLen at hc;obtain ⟨hc1,hc2⟩:=hc;have hd:=h'.cap;unfold maxLen at hd;obtain ⟨hd1,hd2⟩:=hd;by_cases hl:xs.length = ys.length
 ·have HL:=I' hl;have hb1:((xs.length:Int) != (ys.length:Int)) = false:=by simp [hl]
  clear hl;go_enter Tryz.func65,Tryz.ntmps65;go_wp2;go_loopw [5] (fun i wr=>∃k:Nat,k≤xs.length∧i = .int .i64 k∧Hid (same Aq (xs.take k) (ys.take k) = true)∧Below w.heap.size w wr) (fun i _=>xs.length - (intOf i).toNat)
  case atStart=>exact ⟨0,Nat.zero_le _,rfl,by show _ = true;simp [same],aj _⟩
  case round =>
   obtain ⟨k,hk,rfl,Heq,hbl⟩:=hrel;by_cases hlt:k < xs.length
   ·obtain ⟨b,o,ck,Fk,rfl,o9,hbs,hr,hsub,hc⟩:=(h.ext hbl).get hlt;have hlt':k < ys.length:=(by rw [← HL.out];exact hlt);obtain ⟨b',o',TY,Xw,rfl,Ht,hbs',hr',zQ,hc'⟩:=(h'.ext hbl).get hlt';obtain ⟨hck,rfl,xO,xk,zT⟩:=oK hr;subst hck;obtain ⟨hck,rfl,vC,rP,uY⟩:=oK hr';subst hck;have q0:wr.cell? ⟨b,o+k * 3,none⟩ = some (.string xs[k].key):=(by exact hc 0 _ rfl);have q1:wr.cell? ⟨b,o+k * 3+1,none⟩ = some (.string xs[k].value):=(by rw [Nat.add_assoc];exact hc 1 _ rfl);have q2:wr.cell? ⟨b,o+k * 3+2,none⟩ = some (.int .i64 xs[k].effect):=(by rw [Nat.add_assoc];exact hc 2 _ rfl);have p0:wr.cell? ⟨b',o'+k * 3,none⟩ = some (.string ys[k].key):=(by exact hc' 0 _ rfl);have p1:wr.cell? ⟨b',o'+k * 3+1,none⟩ = some (.string ys[k].value):=(by rw [Nat.add_assoc];exact hc' 1 _ rfl);have p2:wr.cell? ⟨b',o'+k * 3+2,none⟩ = some (.int .i64 ys[k].effect):=(by rw [Nat.add_assoc];exact hc' 2 _ rfl);clear hc hc';go_wp2_with fail
    refine aF wr U' U' auj ?_
    repeat (first
     | (apply aG
        case hw=>rfl
        simp only [Act.put,pz])
     | (apply aH
        case hw=>rfl
        case h =>
         intro wq hq;have hcq:=(aB hq).1;have lJ:=(aB hq).2;go_simp
         first
          | exact ⟨hq,rfl⟩
          | exact ⟨aQ hq _,rfl⟩
          | (refine (adH xs[k] ys[k] _ _ _ _ _ (Dat.frame hr (fun x hx=>hq.out.block x (Dat.lt hr x hx)) hq.out.size) (Dat.frame hr' (fun x hx=>hq.out.block x (Dat.lt hr' x hx)) hq.out.size)).mono ?_;rintro e w2 ⟨rfl,hb2⟩;exact ⟨rfl,aI hq hb2⟩)
          | (simp only [↓IntWalk.iteOmega];exact ⟨hq,rfl⟩)
        simp only [Act.put,pz]))
    exact Zaas
   ·exact Zaap
 ·have hb1:((xs.length:Int) != (ys.length:Int)) = true:=by simp;omega
  have HL:=I' (qN (eq:=Aq) hl);clear hl;go_enter Tryz.func65,Tryz.ntmps65;exact Zabz
def oP (a b:bH):Bool:=(a.key.toList == b.key.toList)&&(a.equal == b.equal)&&(a.value.toList == b.value.toList)&&(a.effect == b.effect)
theorem WC (a b:bH):oP a b = true↔a = b:=by
 constructor
 ·intro h;simp only [oP,Bool.and_eq_true] at h;have h0:=Ce h.1.1.1;have h1:=eq_of_beq h.1.1.2;have h2:=Ce h.1.2;have h3:=eq_of_beq h.2;cases a;cases b
  simp only at h0 h1 h2 h3;subst h0 h1 h2 h3;rfl
 ·rintro rfl;simp [oP, *]
theorem aem (a b:bH) (cs ds:List Value) (F G:List Nat) (w:World) (h:rd w a cs F) (h':rd w b ds G) :
 Calls Tryz.prog 123 #[.agg cs.toArray,.agg ds.toArray] w fun e w'=>e = .returned (.bool (oP a b))∧Below w.heap.size w w':=by
 obtain ⟨_,_,_,_,rfl,rfl,⟨rfl,rfl,xO⟩,_,_,_,_,rfl,rfl,⟨rfl,rfl⟩,_,_,_,_,rfl,rfl,⟨rfl,rfl,xk⟩,⟨rfl,rfl,zT⟩⟩:=h;replace xO:=rV (s:=a.key) xO;replace xk:=rV (s:=a.value) xk;replace zT:I64 a.effect:=zT;simp only [List.cons_append,List.nil_append];obtain ⟨_,_,_,_,rfl,rfl,⟨rfl,rfl,vC⟩,_,_,_,_,rfl,rfl,⟨rfl,rfl⟩,_,_,_,_,rfl,rfl,⟨rfl,rfl,rP⟩,⟨rfl,rfl,uY⟩⟩:=h';replace vC:=rV (s:=b.key) vC;replace rP:=rV (s:=b.value) rP;replace uY:I64 b.effect:=uY;simp only [List.cons_append,List.nil_append];go_enter Tryz.func123,Tryz.ntmps123;go_wp2;all_goals go_ret
 all_goals refine ⟨?_,by repeat (first | with_reducible exact aj _ | with_reducible assumption | with_reducible refine ak ?_ _ | with_reducible refine ah ?_ Y')⟩
 all_goals (simp only [Bool.not_eq_true',Bool.not_eq_false',bne_iff_ne,bne_eq_false_iff_eq,beq_iff_eq,beq_eq_false_iff_ne,ne_eq] at *;simp [oP, *])
theorem acS (xs ys:List bH) (A B:Option Addr) (c d:Nat) (F G:List Nat) (w:World) (h:Sl w xs A c F) (h':Sl w ys B d G) :
 Calls Tryz.prog 64 #[.slice A xs.length c,.slice B ys.length d] w fun e w'=>e = .returned (.bool (same oP xs ys))∧Below w.heap.size w w':=by
 have hc:=h.cap;unfold maxLen at hc;obtain ⟨hc1,hc2⟩:=hc;have hd:=h'.cap;unfold maxLen at hd;obtain ⟨hd1,hd2⟩:=hd;by_cases hl:xs.length = ys.length
 ·have HL:=I' hl;have hb1:((xs.length:Int) != (ys.length:Int)) = false:=by simp [hl]
  clear hl;go_enter Tryz.func64,Tryz.ntmps64;go_wp2;go_loopw [5] (fun i wr=>∃k:Nat,k≤xs.length∧i = .int .i64 k∧Hid (same oP (xs.take k) (ys.take k) = true)∧Below w.heap.size w wr) (fun i _=>xs.length - (intOf i).toNat)
  case atStart=>exact ⟨0,Nat.zero_le _,rfl,by show _ = true;simp [same],aj _⟩
  case round =>
   obtain ⟨k,hk,rfl,Heq,hbl⟩:=hrel;by_cases hlt:k < xs.length
   ·obtain ⟨b,o,ck,Fk,rfl,o9,hbs,hr,hsub,hc⟩:=(h.ext hbl).get hlt;have hlt':k < ys.length:=(by rw [← HL.out];exact hlt);obtain ⟨b',o',TY,Xw,rfl,Ht,hbs',hr',zQ,hc'⟩:=(h'.ext hbl).get hlt';obtain ⟨hck,rfl,xO,xk,zT⟩:=jv hr;subst hck;obtain ⟨hck,rfl,vC,rP,uY⟩:=jv hr';subst hck;have q0:wr.cell? ⟨b,o+k * 4,none⟩ = some (.string xs[k].key):=(by exact hc 0 _ rfl);have q1:wr.cell? ⟨b,o+k * 4+1,none⟩ = some (.bool xs[k].equal):=(by rw [Nat.add_assoc];exact hc 1 _ rfl);have q2:wr.cell? ⟨b,o+k * 4+2,none⟩ = some (.string xs[k].value):=(by rw [Nat.add_assoc];exact hc 2 _ rfl);have q3:wr.cell? ⟨b,o+k * 4+3,none⟩ = some (.int .i64 xs[k].effect):=(by rw [Nat.add_assoc];exact hc 3 _ rfl);have p0:wr.cell? ⟨b',o'+k * 4,none⟩ = some (.string ys[k].key):=(by exact hc' 0 _ rfl);have p1:wr.cell? ⟨b',o'+k * 4+1,none⟩ = some (.bool ys[k].equal):=(by rw [Nat.add_assoc];exact hc' 1 _ rfl);have p2:wr.cell? ⟨b',o'+k * 4+2,none⟩ = some (.string ys[k].value):=(by rw [Nat.add_assoc];exact hc' 2 _ rfl);have p3:wr.cell? ⟨b',o'+k * 4+3,none⟩ = some (.int .i64 ys[k].effect):=(by rw [Nat.add_assoc];exact hc' 3 _ rfl);clear hc hc';go_wp2_with fail
    refine aF wr U' U' auj ?_
    repeat (first
     | (apply aG
        case hw=>rfl
        simp only [Act.put,pz])
     | (apply aH
        case hw=>rfl
        case h =>
         intro wq hq;have hcq:=(aB hq).1;have lJ:=(aB hq).2;go_simp
         first
          | exact ⟨hq,rfl⟩
          | exact ⟨aQ hq _,rfl⟩
          | (refine (aem xs[k] ys[k] _ _ _ _ _ (Dat.frame hr (fun x hx=>hq.out.block x (Dat.lt hr x hx)) hq.out.size) (Dat.frame hr' (fun x hx=>hq.out.block x (Dat.lt hr' x hx)) hq.out.size)).mono ?_;rintro e w2 ⟨rfl,hb2⟩;exact ⟨rfl,aI hq hb2⟩)
          | (simp only [↓IntWalk.iteOmega];exact ⟨hq,rfl⟩)
        simp only [Act.put,pz]))
    exact Zaas
   ·exact Zaap
 ·have hb1:((xs.length:Int) != (ys.length:Int)) = true:=by simp;omega
  have HL:=I' (qN (eq:=oP) hl);clear hl;go_enter Tryz.func64,Tryz.ntmps64;exact Zabz
def vF (a b:nI):Bool:=(a.name.toList == b.name.toList)&&same vZ a.labels b.labels&&(a.cpu == b.cpu)&&(a.mem == b.mem)&&(a.rank == b.rank)&&same yI a.needs b.needs&&same oP a.tolerances b.tolerances
theorem yh (a b:nI):vF a b = true↔a = b:=by
 constructor
 ·intro h;simp only [vF,Bool.and_eq_true] at h;have h0:=Ce h.1.1.1.1.1.1;have h1:=(same_iff J8 _ _).1 h.1.1.1.1.1.2;have h2:=eq_of_beq h.1.1.1.1.2;have h3:=eq_of_beq h.1.1.1.2;have h4:=eq_of_beq h.1.1.2;have h5:=(same_iff aas _ _).1 h.1.2;have h6:=(same_iff WC _ _).1 h.2;cases a;cases b
  simp only at h0 h1 h2 h3 h4 h5 h6;subst h0 h1 h2 h3 h4 h5 h6;rfl
 ·rintro rfl;have g1:=(same_iff J8 a.labels a.labels).2 rfl;have g5:=(same_iff aas a.needs a.needs).2 rfl;have g6:=(same_iff WC a.tolerances a.tolerances).2 rfl;simp [vF, *]
theorem yj (a b:nI) (cs ds:List Value) (F G:List Nat) (w:World) (h:rd w a cs F) (h':rd w b ds G) :
 Calls Tryz.prog 26 #[.agg cs.toArray,.agg ds.toArray] w fun e w'=>e = .returned (.bool (vF a b))∧Below w.heap.size w w':=by
 obtain ⟨_,_,_,_,rfl,rfl,⟨rfl,rfl,hname1⟩,_,_,_,_,rfl,rfl,jr,_,_,_,_,rfl,rfl,⟨rfl,rfl,IQ⟩,_,_,_,_,rfl,rfl,⟨rfl,rfl,IU⟩,_,_,_,_,rfl,rfl,⟨rfl,rfl,Sj⟩,_,_,_,_,rfl,rfl,Bv,qc⟩:=h;obtain ⟨dU,dV,rfl,jr⟩:=jB jr;obtain ⟨mJ,mM,rfl,Bv⟩:=jB Bv;obtain ⟨fK,fM,rfl,qc⟩:=jB qc;replace hname1:=rV (s:=a.name) hname1;replace jr:Sl _ a.labels dU dV _:=jr;replace IQ:I64 a.cpu:=IQ;replace IU:I64 a.mem:=IU;replace Sj:I64 a.rank:=Sj;replace Bv:Sl _ a.needs mJ mM _:=Bv;replace qc:Sl _ a.tolerances fK fM _:=qc;simp only [List.cons_append,List.nil_append];obtain ⟨_,_,_,_,rfl,rfl,⟨rfl,rfl,jW⟩,_,_,_,_,rfl,rfl,dA,_,_,_,_,rfl,rfl,⟨rfl,rfl,kQ⟩,_,_,_,_,rfl,rfl,⟨rfl,rfl,lg⟩,_,_,_,_,rfl,rfl,⟨rfl,rfl,lG⟩,_,_,_,_,rfl,rfl,iO,bK⟩:=h';obtain ⟨bY,bZ,rfl,dA⟩:=jB dA;obtain ⟨eU,eX,rfl,iO⟩:=jB iO;obtain ⟨bg,bn,rfl,bK⟩:=jB bK;replace jW:=rV (s:=b.name) jW;replace dA:Sl _ b.labels bY bZ _:=dA;replace kQ:I64 b.cpu:=kQ;replace lg:I64 b.mem:=lg;replace lG:I64 b.rank:=lG;replace iO:Sl _ b.needs eU eX _:=iO;replace bK:Sl _ b.tolerances bg bn _:=bK;simp only [List.cons_append,List.nil_append];go_enter Tryz.func26,Tryz.ntmps26;go_wp2_with (first | (go_at_call 62;refine (KJ a.labels b.labels _ _ _ _ _ _ _ (jr.ext atS) (dA.ext atS)).mono ?_;rintro e w1 ⟨rfl,hb1⟩;obtain ⟨hc1,hf1⟩:=ay hb1;have zO:w.heap.size < w1.heap.size:=(sq hb1.size);have CO:w.heap.size+1 < w1.heap.size:=(sq hb1.size)) | (go_at_call 63;refine (al1 a.needs b.needs _ _ _ _ _ _ _ (Bv.ext atS) (iO.ext atS)).mono ?_;rintro e w5 ⟨rfl,hb5⟩;obtain ⟨hc5,hf5⟩:=ay hb5;have Sm:w.heap.size < w5.heap.size:=(sq hb5.size);have WW:w.heap.size+1 < w5.heap.size:=(sq hb5.size)) | (go_at_call 64;refine (acS a.tolerances b.tolerances _ _ _ _ _ _ _ (qc.ext atS) (bK.ext atS)).mono ?_;rintro e w6 ⟨rfl,hb6⟩;obtain ⟨hc6,Xe⟩:=ay hb6;have al2:w.heap.size < w6.heap.size:=(sq hb6.size);have hz61:w.heap.size+1 < w6.heap.size:=(sq hb6.size)))
 all_goals go_ret
 all_goals refine ⟨?_,by repeat (first | with_reducible exact aj _ | with_reducible assumption | with_reducible refine ak ?_ _ | with_reducible refine ah ?_ Y')⟩
 all_goals (simp only [Bool.not_eq_true',Bool.not_eq_false',bne_iff_ne,bne_eq_false_iff_eq,beq_iff_eq,beq_eq_false_iff_ne,ne_eq] at *;simp [vF, *])
def ou (a b:Host):Bool:=(a.name.toList == b.name.toList)&&same vZ a.labels b.labels&&(a.cpu == b.cpu)&&(a.mem == b.mem)&&(a.slots == b.slots)&&same Aq a.aT b.aT
theorem LW (a b:Host):ou a b = true↔a = b:=by
 constructor
 ·intro h;simp only [ou,Bool.and_eq_true] at h;have h0:=Ce h.1.1.1.1.1;have h1:=(same_iff J8 _ _).1 h.1.1.1.1.2;have h2:=eq_of_beq h.1.1.1.2;have h3:=eq_of_beq h.1.1.2;have h4:=eq_of_beq h.1.2;have h5:=(same_iff Xx _ _).1 h.2;cases a;cases b
  simp only at h0 h1 h2 h3 h4 h5;subst h0 h1 h2 h3 h4 h5;rfl
 ·rintro rfl;have g1:=(same_iff J8 a.labels a.labels).2 rfl;have g5:=(same_iff Xx a.aT a.aT).2 rfl;simp [ou, *]
theorem Qd (a b:Host) (cs ds:List Value) (F G:List Nat) (w:World) (h:rd w a cs F) (h':rd w b ds G) :
 Calls Tryz.prog 27 #[.agg cs.toArray,.agg ds.toArray] w fun e w'=>e = .returned (.bool (ou a b))∧Below w.heap.size w w':=by
 obtain ⟨_,_,_,_,rfl,rfl,⟨rfl,rfl,hname1⟩,_,_,_,_,rfl,rfl,jr,_,_,_,_,rfl,rfl,⟨rfl,rfl,IQ⟩,_,_,_,_,rfl,rfl,⟨rfl,rfl,IU⟩,_,_,_,_,rfl,rfl,⟨rfl,rfl,KD⟩,yO⟩:=h;obtain ⟨dU,dV,rfl,jr⟩:=jB jr;obtain ⟨kY,kZ,rfl,yO⟩:=jB yO;replace hname1:=rV (s:=a.name) hname1;replace jr:Sl _ a.labels dU dV _:=jr;replace IQ:I64 a.cpu:=IQ;replace IU:I64 a.mem:=IU;replace KD:I64 a.slots:=KD;replace yO:Sl _ a.aT kY kZ _:=yO;simp only [List.cons_append,List.nil_append];obtain ⟨_,_,_,_,rfl,rfl,⟨rfl,rfl,jW⟩,_,_,_,_,rfl,rfl,dA,_,_,_,_,rfl,rfl,⟨rfl,rfl,kQ⟩,_,_,_,_,rfl,rfl,⟨rfl,rfl,lg⟩,_,_,_,_,rfl,rfl,⟨rfl,rfl,Nh⟩,Bd⟩:=h';obtain ⟨bY,bZ,rfl,dA⟩:=jB dA;obtain ⟨wP,wQ,rfl,Bd⟩:=jB Bd;replace jW:=rV (s:=b.name) jW;replace dA:Sl _ b.labels bY bZ _:=dA;replace kQ:I64 b.cpu:=kQ;replace lg:I64 b.mem:=lg;replace Nh:I64 b.slots:=Nh;replace Bd:Sl _ b.aT wP wQ _:=Bd;simp only [List.cons_append,List.nil_append];go_enter Tryz.func27,Tryz.ntmps27;go_wp2_with (first | (go_at_call 62;refine (KJ a.labels b.labels _ _ _ _ _ _ _ (jr.ext atS) (dA.ext atS)).mono ?_;rintro e w1 ⟨rfl,hb1⟩;obtain ⟨hc1,hf1⟩:=ay hb1;have zO:w.heap.size < w1.heap.size:=(sq hb1.size);have CO:w.heap.size+1 < w1.heap.size:=(sq hb1.size)) | (go_at_call 65;refine (ajy a.aT b.aT _ _ _ _ _ _ _ (yO.ext atS) (Bd.ext atS)).mono ?_;rintro e w5 ⟨rfl,hb5⟩;obtain ⟨hc5,hf5⟩:=ay hb5;have Sm:w.heap.size < w5.heap.size:=(sq hb5.size);have WW:w.heap.size+1 < w5.heap.size:=(sq hb5.size)))
 all_goals go_ret
 all_goals refine ⟨?_,by repeat (first | with_reducible exact aj _ | with_reducible assumption | with_reducible refine ak ?_ _ | with_reducible refine ah ?_ Y')⟩
 all_goals (simp only [Bool.not_eq_true',Bool.not_eq_false',bne_iff_ne,bne_eq_false_iff_eq,beq_iff_eq,beq_eq_false_iff_ne,ne_eq] at *;simp [ou, *])
def Hu (a b:Manifest):Bool:=(a.kind == b.kind)&&vF a.aS b.aS&&ou a.host b.host
theorem aqM (a b:Manifest):Hu a b = true↔a = b:=by
 constructor
 ·intro h;simp only [Hu,Bool.and_eq_true] at h;have h0:=eq_of_beq h.1.1;have h1:=(yh _ _).1 h.1.2;have h2:=(LW _ _).1 h.2;cases a;cases b
  simp only at h0 h1 h2;subst h0 h1 h2;rfl
 ·rintro rfl;have g1:=(yh a.aS a.aS).2 rfl;have g2:=(LW a.host a.host).2 rfl;simp [Hu, *]
theorem afA (a b:Manifest) (cs ds:List Value) (F G:List Nat) (w:World) (h:rd w a cs F) (h':rd w b ds G) :
 Calls Tryz.prog 8 #[.agg cs.toArray,.agg ds.toArray] w fun e w'=>e = .returned (.bool (Hu a b))∧Below w.heap.size w w':=by
 obtain ⟨_,_,_,_,rfl,rfl,⟨rfl,rfl,BA⟩,_,_,_,_,rfl,rfl,al4,aqN⟩:=h;have Vf:=al4;obtain ⟨pO,pR,EY,rH,rJ,He,kT,kU,yu,rfl,rfl,Dq,yw,FW,FX,Dt,Az,qH⟩:=dL al4;have ae0:=aqN;obtain ⟨Ip,Iq,abz,Ir,Iu,abA,rfl,rfl,Vj,OY,YI,YJ,Rf,OZ⟩:=iy aqN;replace BA:I64 a.kind:=BA;replace Dq:=rV (s:=a.aS.name) Dq;replace yw:Sl _ a.aS.labels pO pR _:=yw;replace FW:I64 a.aS.cpu:=FW;replace FX:I64 a.aS.mem:=FX;replace Dt:I64 a.aS.rank:=Dt;replace Az:Sl _ a.aS.needs rH rJ _:=Az;replace qH:Sl _ a.aS.tolerances kT kU _:=qH;replace Vj:=rV (s:=a.host.name) Vj;replace OY:Sl _ a.host.labels Ip Iq _:=OY;replace YI:I64 a.host.cpu:=YI;replace YJ:I64 a.host.mem:=YJ;replace Rf:I64 a.host.slots:=Rf;replace OZ:Sl _ a.host.aT Ir Iu _:=OZ;replace Vf:rd _ a.aS [.string a.aS.name,.slice pO a.aS.labels.length pR,.int .i64 a.aS.cpu,.int .i64 a.aS.mem,.int .i64 a.aS.rank,.slice rH a.aS.needs.length rJ,.slice kT a.aS.tolerances.length kU] _:=Vf;replace ae0:rd _ a.host [.string a.host.name,.slice Ip a.host.labels.length Iq,.int .i64 a.host.cpu,.int .i64 a.host.mem,.int .i64 a.host.slots,.slice Ir a.host.aT.length Iu] _:=ae0;simp only [List.cons_append,List.nil_append];obtain ⟨_,_,_,_,rfl,rfl,⟨rfl,rfl,LX⟩,_,_,_,_,rfl,rfl,al5,aqO⟩:=h';have ku:=al5;obtain ⟨mZ,ng,DX,oL,oM,FC,jG,jH,wu,rfl,rfl,Ci,wR,EM,EN,Cj,yU,pF⟩:=dL al5;have ae1:=aqO;obtain ⟨DY,DZ,abB,D5,D6,abC,rfl,rfl,Vk,O0,YK,YL,Rh,O1⟩:=iy aqO;replace LX:I64 b.kind:=LX;replace Ci:=rV (s:=b.aS.name) Ci;replace wR:Sl _ b.aS.labels mZ ng _:=wR;replace EM:I64 b.aS.cpu:=EM;replace EN:I64 b.aS.mem:=EN;replace Cj:I64 b.aS.rank:=Cj;replace yU:Sl _ b.aS.needs oL oM _:=yU;replace pF:Sl _ b.aS.tolerances jG jH _:=pF;replace Vk:=rV (s:=b.host.name) Vk;replace O0:Sl _ b.host.labels DY DZ _:=O0;replace YK:I64 b.host.cpu:=YK;replace YL:I64 b.host.mem:=YL;replace Rh:I64 b.host.slots:=Rh;replace O1:Sl _ b.host.aT D5 D6 _:=O1;replace ku:rd _ b.aS [.string b.aS.name,.slice mZ b.aS.labels.length ng,.int .i64 b.aS.cpu,.int .i64 b.aS.mem,.int .i64 b.aS.rank,.slice oL b.aS.needs.length oM,.slice jG b.aS.tolerances.length jH] _:=ku;replace ae1:rd _ b.host [.string b.host.name,.slice DY b.host.labels.length DZ,.int .i64 b.host.cpu,.int .i64 b.host.mem,.int .i64 b.host.slots,.slice D5 b.host.aT.length D6] _:=ae1;simp only [List.cons_append,List.nil_append];go_enter Tryz.func8,Tryz.ntmps8;go_wp2_with (first | (go_at_call 26;refine (yj a.aS b.aS _ _ _ _ _ (Dat.frame Vf (fun b hb=>(show Below w.heap.size w _ from atS).block b (Dat.lt Vf b hb)) (show Below w.heap.size w _ from atS).size) (Dat.frame ku (fun b hb=>(show Below w.heap.size w _ from atS).block b (Dat.lt ku b hb)) (show Below w.heap.size w _ from atS).size)).mono ?_;rintro e w1 ⟨rfl,hb1⟩;obtain ⟨hc1,hf1⟩:=ay hb1;have zO:w.heap.size < w1.heap.size:=(sq hb1.size);have CO:w.heap.size+1 < w1.heap.size:=(sq hb1.size)) | (go_at_call 27;refine (Qd a.host b.host _ _ _ _ _ (Dat.frame ae0 (fun b hb=>(show Below w.heap.size w _ from atS).block b (Dat.lt ae0 b hb)) (show Below w.heap.size w _ from atS).size) (Dat.frame ae1 (fun b hb=>(show Below w.heap.size w _ from atS).block b (Dat.lt ae1 b hb)) (show Below w.heap.size w _ from atS).size)).mono ?_;rintro e w2 ⟨rfl,hb2⟩;obtain ⟨hc2,hf2⟩:=ay hb2;have al0:w.heap.size < w2.heap.size:=(sq hb2.size);have hz21:w.heap.size+1 < w2.heap.size:=(sq hb2.size)))
 all_goals go_ret
 all_goals refine ⟨?_,by repeat (first | with_reducible exact aj _ | with_reducible assumption | with_reducible refine ak ?_ _ | with_reducible refine ah ?_ Y')⟩
 all_goals (simp only [Bool.not_eq_true',Bool.not_eq_false',bne_iff_ne,bne_eq_false_iff_eq,beq_iff_eq,beq_eq_false_iff_ne,ne_eq] at *;simp [Hu, *])
end Go.Proofs.YtnedlmlpeplnfaaGreat
