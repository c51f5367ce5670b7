/-
  Slices of Fraction: as lists; copied, compared, marked, asked for their marks; each for every slice that reads as the given list.
-/
import Derived.Test.YtpmdgbdeibeoaaaApp
import Derived.Test.YtpmdgbdeibeoaaaTo
namespace Go.Proofs.Ytpmdgbdeibeoaaa
open Go.RowKit
set_option maxHeartbeats 1000000

structure FracD where
  n : Int
  d : Int
def FracD.zero : FracD := ⟨0, 0⟩
/-- As cells. -/
def FracD.cells (x : FracD) : List Value := [.int .i64 x.n, .int .i64 x.d]
def fracs (xs : List FracD) : List Value := xs.flatMap FracD.cells
/-- The element at a place. -/
def fracsAt (xs : List FracD) (k : Nat) : FracD := xs.getD k FracD.zero
theorem fracs_nil : fracs [] = [] := rfl
theorem fracs_cons (x : FracD) (xs : List FracD) : fracs (x :: xs) = x.cells ++ fracs xs := rfl
theorem fracs_append (xs ys : List FracD) : fracs (xs ++ ys) = fracs xs ++ fracs ys := by simp [fracs]
theorem fracs_len (xs : List FracD) : (fracs xs).length = xs.length * 2 := by
  induction xs with
  | nil => rfl
  | cons x xs ih => rw [fracs_cons, List.length_append, ih]; simp [FracD.cells]; omega
theorem fracs_eq {xs : List FracD} {k : Nat} (h : k < xs.length) : xs[k] = fracsAt xs k := by unfold fracsAt; rw [List.getD_eq_getElem?_getD, List.getElem?_eq_getElem h]; rfl
theorem fracs_get0 {xs : List FracD} : ∀ {k : Nat}, k < xs.length → (fracs xs)[k * 2]? = some (.int .i64 (fracsAt xs k).n) := by
  induction xs with
  | nil => intro k h; simp at h
  | cons x xs ih =>
    intro k h
    cases k with
    | zero => rfl
    | succ k =>
      have e : (k + 1) * 2 = x.cells.length + (k * 2) := by simp [FracD.cells]; omega
      rw [fracs_cons, e, List.getElem?_append_right (by omega), Nat.add_sub_cancel_left, ih (by simpa using h)]
      rfl
theorem fracs_get1 {xs : List FracD} : ∀ {k : Nat}, k < xs.length → (fracs xs)[k * 2 + 1]? = some (.int .i64 (fracsAt xs k).d) := by
  induction xs with
  | nil => intro k h; simp at h
  | cons x xs ih =>
    intro k h
    cases k with
    | zero => rfl
    | succ k =>
      have e : (k + 1) * 2 + 1 = x.cells.length + (k * 2 + 1) := by simp [FracD.cells]; omega
      rw [fracs_cons, e, List.getElem?_append_right (by omega), Nat.add_sub_cancel_left, ih (by simpa using h)]
      rfl
theorem fracs_set0 {xs : List FracD} (v : Int) : ∀ {k : Nat}, k < xs.length → (fracs xs).set (k * 2) (.int .i64 v) = fracs (xs.set k { fracsAt xs k with n := v }) := by
  induction xs with
  | nil => intro k h; simp at h
  | cons x xs ih =>
    intro k h
    cases k with
    | zero => rfl
    | succ k =>
      have e : (k + 1) * 2 = x.cells.length + (k * 2) := by simp [FracD.cells]; omega
      rw [fracs_cons, e, List.set_append_right _ _ (by omega), Nat.add_sub_cancel_left, ih (by simpa using h)]
      rfl
theorem fracs_set1 {xs : List FracD} (v : Int) : ∀ {k : Nat}, k < xs.length → (fracs xs).set (k * 2 + 1) (.int .i64 v) = fracs (xs.set k { fracsAt xs k with d := v }) := by
  induction xs with
  | nil => intro k h; simp at h
  | cons x xs ih =>
    intro k h
    cases k with
    | zero => rfl
    | succ k =>
      have e : (k + 1) * 2 + 1 = x.cells.length + (k * 2 + 1) := by simp [FracD.cells]; omega
      rw [fracs_cons, e, List.set_append_right _ _ (by omega), Nat.add_sub_cancel_left, ih (by simpa using h)]
      rfl
theorem fracsAt_set {xs : List FracD} {k j : Nat} {x : FracD} (hk : k < xs.length) : fracsAt (xs.set k x) j = if j = k then x else fracsAt xs j := by
  unfold fracsAt
  rw [List.getD_eq_getElem?_getD, List.getD_eq_getElem?_getD, List.getElem?_set]
  by_cases h : j = k
  · subst h; simp [hk]
  · have h' : ¬ k = j := fun e => h e.symm
    simp [h, h']
theorem ext_fracs {ys xs : List FracD} (hl : ys.length = xs.length) (h : ∀ j, j < xs.length → fracsAt ys j = fracsAt xs j) : ys = xs := by
  apply List.ext_getElem hl
  intro j h1 h2
  rw [fracs_eq h1, fracs_eq h2]
  exact h j h2
theorem Rd.fracs_length {w : World} {A : Option Addr} {n : Nat} {xs : List FracD} (h : Rd w 2 A n (fracs xs)) : xs.length = n := by have := h.1; rw [fracs_len] at this; omega
/-- The cells of an element. -/
theorem Rd.fracs {w : World} {A : Option Addr} {n : Nat} {xs : List FracD} (h : Rd w 2 A n (fracs xs)) {k : Nat} (hk : k < n) :
    ∃ b off, A = some ⟨b, off, none⟩ ∧ b < w.heap.size ∧ w.cell? ⟨b, off + k * 2, none⟩ = some (.int .i64 (fracsAt xs k).n) ∧ w.cell? ⟨b, off + k * 2 + 1, none⟩ = some (.int .i64 (fracsAt xs k).d) := by
  have hl := h.fracs_length
  obtain ⟨b, off, e, hb, hc⟩ := h.2 (by omega)
  exact ⟨b, off, e, hb, hc _ _ (fracs_get0 (by omega)), by rw [Nat.add_assoc]; exact hc _ _ (fracs_get1 (by omega))⟩
theorem own_fracs_len {w : World} {base : Nat} {E : TypeId} {v : Value} {n : Nat} {xs : List FracD} (h : w.ownsRow base E 2 v n (fracs xs)) : xs.length = n := by have := h.1; rw [fracs_len] at this; omega
end Go.Proofs.Ytpmdgbdeibeoaaa
