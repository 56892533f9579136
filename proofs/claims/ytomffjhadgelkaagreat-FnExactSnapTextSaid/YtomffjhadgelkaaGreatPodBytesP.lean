/- A pod's bytes, in plain Lean. No condition. -/
import Derived.Test.YtomffjhadgelkaaGreatPodOk
import Derived.Test.YtomffjhadgelkaaGreatLabelsBytes
namespace Go.Proofs.YtomffjhadgelkaaGreat
open Go.ChangeShapes Go.WideShapes Go.ChangeAt Go.RowKit
set_option linter.unusedVariables false
set_option linter.unusedSimpArgs false

def needBytes0 (n : Need) : ByteArray := shortText n.key ++ varText n.op ++ varText n.values.length
def valsTo (n : Need) (j : Nat) : ByteArray := (n.values.take j).foldl (fun s v => s ++ shortText v) (needBytes0 n)
def needBytes (n : Need) : ByteArray := valsTo n n.values.length
def podHead (x : Pod) : ByteArray := shortText x.name ++ labelsBytes x.labels ++ varText x.cpu ++ varText x.mem ++ varText x.rank ++ varText x.needs.length
def podNeeds (x : Pod) (k : Nat) : ByteArray := (x.needs.take k).foldl (fun s n => s ++ needBytes n) (podHead x)
def podMid (x : Pod) : ByteArray := podNeeds x x.needs.length ++ varText x.tolerances.length
def flagB (b : Bool) : Int := if b then 1 else 0
def tolBytes (t : Tolerance) : ByteArray := shortText t.key ++ varText (flagB t.equal) ++ shortText t.value ++ varText t.effect
def podTols (x : Pod) (k : Nat) : ByteArray := (x.tolerances.take k).foldl (fun s t => s ++ tolBytes t) (podMid x)
def podBytes (x : Pod) : ByteArray := if podR x then podTols x x.tolerances.length else ⟨#[]⟩
theorem flagB_I64 (b : Bool) : I64 (flagB b) := by cases b <;> exact ⟨by decide, by decide⟩
theorem valsTo_zero (n : Need) : valsTo n 0 = needBytes0 n := rfl
theorem valsTo_next {n : Need} {j : Nat} (h : j < n.values.length) : valsTo n (j + 1) = valsTo n j ++ shortText n.values[j] := foldl_take _ _ _ _ h
theorem podNeeds_next {x : Pod} {k : Nat} (h : k < x.needs.length) : podNeeds x (k + 1) = podNeeds x k ++ needBytes x.needs[k] := foldl_take _ _ _ _ h
theorem podTols_next {x : Pod} {k : Nat} (h : k < x.tolerances.length) : podTols x (k + 1) = podTols x k ++ tolBytes x.tolerances[k] := foldl_take _ _ _ _ h
theorem labelsBytes_size (xs : List Label) (hl : (xs.length : Int) ≤ 1048576) (hx : ∀ l ∈ xs, (l.key.size : Int) ≤ 1048576 ∧ (l.value.size : Int) ≤ 1048576) : ((labelsBytes xs).size : Int) ≤ 2199045931018 := by
  have h1 := labels_size xs (varText xs.length) hx xs.length (Nat.le_refl _)
  rw [List.take_length] at h1
  have h2 := varText_size xs.length ⟨by omega, by omega⟩
  have h3 : xs.length * 2097172 ≤ 1048576 * 2097172 := Nat.mul_le_mul_right _ (by omega)
  unfold labelsBytes
  omega
theorem needBytes0_size {n : Need} (hk : (n.key.size : Int) ≤ 1048576) (ho : I64 n.op) (hl : (n.values.length : Int) ≤ 1048576) : (needBytes0 n).size ≤ 1048606 := by
  have a := shortText_size n.key (by omega)
  have b := varText_size n.op ho
  have c := varText_size n.values.length ⟨by omega, by omega⟩
  unfold needBytes0
  rw [ByteArray.size_append, ByteArray.size_append]
  omega
theorem valsTo_size {n : Need} (hk : (n.key.size : Int) ≤ 1048576) (ho : I64 n.op) (hl : (n.values.length : Int) ≤ 1048576) (hv : ∀ v ∈ n.values, (v.size : Int) ≤ 1048576) : ∀ j, j ≤ n.values.length → (valsTo n j).size ≤ 1048606 + j * 1048586
  | 0, _ => by rw [valsTo_zero]; have := needBytes0_size hk ho hl; omega
  | j + 1, h => by
    rw [valsTo_next (by omega), ByteArray.size_append]
    have h1 := valsTo_size hk ho hl hv j (by omega)
    have h2 := shortText_size n.values[j] (by have := hv n.values[j] (List.getElem_mem ..); omega)
    have h3 := hv n.values[j] (List.getElem_mem ..)
    omega
theorem needBytes_size {n : Need} (hk : (n.key.size : Int) ≤ 1048576) (ho : I64 n.op) (hl : (n.values.length : Int) ≤ 1048576) (hv : ∀ v ∈ n.values, (v.size : Int) ≤ 1048576) : (needBytes n).size ≤ 1099523200000 := by
  have h1 := valsTo_size hk ho hl hv n.values.length (Nat.le_refl _)
  have h2 : n.values.length * 1048586 ≤ 1048576 * 1048586 := Nat.mul_le_mul_right _ (by omega)
  unfold needBytes
  omega
theorem podNeeds_size (x : Pod) (hx : ∀ l ∈ x.needs, (l.key.size : Int) ≤ 1048576 ∧ (l.values.length : Int) ≤ 1048576 ∧ ∀ v ∈ l.values, (v.size : Int) ≤ 1048576) (hi : ∀ n ∈ x.needs, I64 n.op) : ∀ k, k ≤ x.needs.length → (podNeeds x k).size ≤ (podHead x).size + k * 1099523200000
  | 0, _ => by simp [podNeeds]
  | k + 1, h => by
    rw [podNeeds_next (by omega), ByteArray.size_append]
    have h1 := podNeeds_size x hx hi k (by omega)
    obtain ⟨a, b, c⟩ := hx x.needs[k] (List.getElem_mem ..)
    have h2 := needBytes_size a (hi x.needs[k] (List.getElem_mem ..)) b c
    omega
theorem tolBytes_size {t : Tolerance} (h1 : (t.key.size : Int) ≤ 1048576) (h2 : (t.value.size : Int) ≤ 1048576) (h3 : I64 t.effect) : (tolBytes t).size ≤ 2097192 := by
  have a := shortText_size t.key (by omega)
  have b := shortText_size t.value (by omega)
  have c := varText_size t.effect h3
  have d := varText_size (flagB t.equal) (flagB_I64 _)
  unfold tolBytes
  rw [ByteArray.size_append, ByteArray.size_append, ByteArray.size_append]
  omega
theorem podTols_size (x : Pod) (hx : ∀ t ∈ x.tolerances, (t.key.size : Int) ≤ 1048576 ∧ (t.value.size : Int) ≤ 1048576) (hi : ∀ t ∈ x.tolerances, I64 t.effect) : ∀ k, k ≤ x.tolerances.length → (podTols x k).size ≤ (podMid x).size + k * 2097192
  | 0, _ => by simp [podTols]
  | k + 1, h => by
    rw [podTols_next (by omega), ByteArray.size_append]
    have h1 := podTols_size x hx hi k (by omega)
    have h2 := tolBytes_size (hx x.tolerances[k] (List.getElem_mem ..)).1 (hx x.tolerances[k] (List.getElem_mem ..)).2 (hi x.tolerances[k] (List.getElem_mem ..))
    omega
theorem Sl.need_I64 {w : World} {xs : List Need} {A : Option Addr} {c : Nat} {F : List Nat} (h : Sl w xs A c F) : ∀ t ∈ xs, I64 t.op := by
  intro p hp
  obtain ⟨k, hk, rfl⟩ := List.getElem_of_mem hp
  obtain ⟨b, o, ck, Fk, _, _, _, hr, _, _⟩ := h.get hk
  obtain ⟨Avalues, cvalues, Fvalues, rfl, rfl, hkey, hop, hvalues⟩ := rd_Need hr
  exact hop
theorem Sl.tol_I64 {w : World} {xs : List Tolerance} {A : Option Addr} {c : Nat} {F : List Nat} (h : Sl w xs A c F) : ∀ t ∈ xs, I64 t.effect := by
  intro p hp
  obtain ⟨k, hk, rfl⟩ := List.getElem_of_mem hp
  obtain ⟨b, o, ck, Fk, _, _, _, hr, _, _⟩ := h.get hk
  obtain ⟨rfl, rfl, hkey, hvalue, heffect⟩ := rd_Tolerance hr
  exact heffect

end Go.Proofs.YtomffjhadgelkaaGreat
