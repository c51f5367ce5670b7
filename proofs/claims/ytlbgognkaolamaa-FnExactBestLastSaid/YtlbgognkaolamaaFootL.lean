/-
  Slices of Foot: as lists; copied, compared, marked, asked for their marks; each for every slice that reads as the given list.
-/
import Derived.Test.YtlbgognkaolamaaApp
import Derived.Test.YtlbgognkaolamaaTo
namespace Go.Proofs.Ytlbgognkaolamaa
open Go.RowKit
set_option maxHeartbeats 1000000

structure FootD where
  l : Int
  b : Int
  i : Int
  h : Int
def FootD.zero : FootD := ⟨0, 0, 0, 0⟩
/-- As cells. -/
def FootD.cells (x : FootD) : List Value := [.int .i64 x.l, .int .i64 x.b, .int .i64 x.i, .int .i64 x.h]
def feet (xs : List FootD) : List Value := xs.flatMap FootD.cells
/-- The element at a place. -/
def feetAt (xs : List FootD) (k : Nat) : FootD := xs.getD k FootD.zero
theorem feet_nil : feet [] = [] := rfl
theorem feet_cons (x : FootD) (xs : List FootD) : feet (x :: xs) = x.cells ++ feet xs := rfl
theorem feet_append (xs ys : List FootD) : feet (xs ++ ys) = feet xs ++ feet ys := by simp [feet]
theorem feet_len (xs : List FootD) : (feet xs).length = xs.length * 4 := by
  induction xs with
  | nil => rfl
  | cons x xs ih => rw [feet_cons, List.length_append, ih]; simp [FootD.cells]; omega
theorem feet_eq {xs : List FootD} {k : Nat} (h : k < xs.length) : xs[k] = feetAt xs k := by unfold feetAt; rw [List.getD_eq_getElem?_getD, List.getElem?_eq_getElem h]; rfl
theorem feet_get0 {xs : List FootD} : ∀ {k : Nat}, k < xs.length → (feet xs)[k * 4]? = some (.int .i64 (feetAt xs k).l) := by
  induction xs with
  | nil => intro k h; simp at h
  | cons x xs ih =>
    intro k h
    cases k with
    | zero => rfl
    | succ k =>
      have e : (k + 1) * 4 = x.cells.length + (k * 4) := by simp [FootD.cells]; omega
      rw [feet_cons, e, List.getElem?_append_right (by omega), Nat.add_sub_cancel_left, ih (by simpa using h)]
      rfl
theorem feet_get1 {xs : List FootD} : ∀ {k : Nat}, k < xs.length → (feet xs)[k * 4 + 1]? = some (.int .i64 (feetAt xs k).b) := by
  induction xs with
  | nil => intro k h; simp at h
  | cons x xs ih =>
    intro k h
    cases k with
    | zero => rfl
    | succ k =>
      have e : (k + 1) * 4 + 1 = x.cells.length + (k * 4 + 1) := by simp [FootD.cells]; omega
      rw [feet_cons, e, List.getElem?_append_right (by omega), Nat.add_sub_cancel_left, ih (by simpa using h)]
      rfl
theorem feet_get2 {xs : List FootD} : ∀ {k : Nat}, k < xs.length → (feet xs)[k * 4 + 2]? = some (.int .i64 (feetAt xs k).i) := by
  induction xs with
  | nil => intro k h; simp at h
  | cons x xs ih =>
    intro k h
    cases k with
    | zero => rfl
    | succ k =>
      have e : (k + 1) * 4 + 2 = x.cells.length + (k * 4 + 2) := by simp [FootD.cells]; omega
      rw [feet_cons, e, List.getElem?_append_right (by omega), Nat.add_sub_cancel_left, ih (by simpa using h)]
      rfl
theorem feet_get3 {xs : List FootD} : ∀ {k : Nat}, k < xs.length → (feet xs)[k * 4 + 3]? = some (.int .i64 (feetAt xs k).h) := by
  induction xs with
  | nil => intro k h; simp at h
  | cons x xs ih =>
    intro k h
    cases k with
    | zero => rfl
    | succ k =>
      have e : (k + 1) * 4 + 3 = x.cells.length + (k * 4 + 3) := by simp [FootD.cells]; omega
      rw [feet_cons, e, List.getElem?_append_right (by omega), Nat.add_sub_cancel_left, ih (by simpa using h)]
      rfl
theorem feet_set0 {xs : List FootD} (v : Int) : ∀ {k : Nat}, k < xs.length → (feet xs).set (k * 4) (.int .i64 v) = feet (xs.set k { feetAt xs k with l := v }) := by
  induction xs with
  | nil => intro k h; simp at h
  | cons x xs ih =>
    intro k h
    cases k with
    | zero => rfl
    | succ k =>
      have e : (k + 1) * 4 = x.cells.length + (k * 4) := by simp [FootD.cells]; omega
      rw [feet_cons, e, List.set_append_right _ _ (by omega), Nat.add_sub_cancel_left, ih (by simpa using h)]
      rfl
theorem feet_set1 {xs : List FootD} (v : Int) : ∀ {k : Nat}, k < xs.length → (feet xs).set (k * 4 + 1) (.int .i64 v) = feet (xs.set k { feetAt xs k with b := v }) := by
  induction xs with
  | nil => intro k h; simp at h
  | cons x xs ih =>
    intro k h
    cases k with
    | zero => rfl
    | succ k =>
      have e : (k + 1) * 4 + 1 = x.cells.length + (k * 4 + 1) := by simp [FootD.cells]; omega
      rw [feet_cons, e, List.set_append_right _ _ (by omega), Nat.add_sub_cancel_left, ih (by simpa using h)]
      rfl
theorem feet_set2 {xs : List FootD} (v : Int) : ∀ {k : Nat}, k < xs.length → (feet xs).set (k * 4 + 2) (.int .i64 v) = feet (xs.set k { feetAt xs k with i := v }) := by
  induction xs with
  | nil => intro k h; simp at h
  | cons x xs ih =>
    intro k h
    cases k with
    | zero => rfl
    | succ k =>
      have e : (k + 1) * 4 + 2 = x.cells.length + (k * 4 + 2) := by simp [FootD.cells]; omega
      rw [feet_cons, e, List.set_append_right _ _ (by omega), Nat.add_sub_cancel_left, ih (by simpa using h)]
      rfl
theorem feet_set3 {xs : List FootD} (v : Int) : ∀ {k : Nat}, k < xs.length → (feet xs).set (k * 4 + 3) (.int .i64 v) = feet (xs.set k { feetAt xs k with h := v }) := by
  induction xs with
  | nil => intro k h; simp at h
  | cons x xs ih =>
    intro k h
    cases k with
    | zero => rfl
    | succ k =>
      have e : (k + 1) * 4 + 3 = x.cells.length + (k * 4 + 3) := by simp [FootD.cells]; omega
      rw [feet_cons, e, List.set_append_right _ _ (by omega), Nat.add_sub_cancel_left, ih (by simpa using h)]
      rfl
theorem feetAt_set {xs : List FootD} {k j : Nat} {x : FootD} (hk : k < xs.length) : feetAt (xs.set k x) j = if j = k then x else feetAt xs j := by
  unfold feetAt
  rw [List.getD_eq_getElem?_getD, List.getD_eq_getElem?_getD, List.getElem?_set]
  by_cases h : j = k
  · subst h; simp [hk]
  · have h' : ¬ k = j := fun e => h e.symm
    simp [h, h']
theorem ext_feet {ys xs : List FootD} (hl : ys.length = xs.length) (h : ∀ j, j < xs.length → feetAt ys j = feetAt xs j) : ys = xs := by
  apply List.ext_getElem hl
  intro j h1 h2
  rw [feet_eq h1, feet_eq h2]
  exact h j h2
theorem Rd.feet_length {w : World} {A : Option Addr} {n : Nat} {xs : List FootD} (h : Rd w 4 A n (feet xs)) : xs.length = n := by have := h.1; rw [feet_len] at this; omega
/-- The cells of an element. -/
theorem Rd.feet {w : World} {A : Option Addr} {n : Nat} {xs : List FootD} (h : Rd w 4 A n (feet xs)) {k : Nat} (hk : k < n) :
    ∃ b off, A = some ⟨b, off, none⟩ ∧ b < w.heap.size ∧ w.cell? ⟨b, off + k * 4, none⟩ = some (.int .i64 (feetAt xs k).l) ∧ w.cell? ⟨b, off + k * 4 + 1, none⟩ = some (.int .i64 (feetAt xs k).b) ∧ w.cell? ⟨b, off + k * 4 + 2, none⟩ = some (.int .i64 (feetAt xs k).i) ∧ w.cell? ⟨b, off + k * 4 + 3, none⟩ = some (.int .i64 (feetAt xs k).h) := by
  have hl := h.feet_length
  obtain ⟨b, off, e, hb, hc⟩ := h.2 (by omega)
  exact ⟨b, off, e, hb, hc _ _ (feet_get0 (by omega)), by rw [Nat.add_assoc]; exact hc _ _ (feet_get1 (by omega)), by rw [Nat.add_assoc]; exact hc _ _ (feet_get2 (by omega)), by rw [Nat.add_assoc]; exact hc _ _ (feet_get3 (by omega))⟩
theorem own_feet_len {w : World} {base : Nat} {E : TypeId} {v : Value} {n : Nat} {xs : List FootD} (h : w.ownsRow base E 4 v n (feet xs)) : xs.length = n := by have := h.1; rw [feet_len] at this; omega
end Go.Proofs.Ytlbgognkaolamaa
