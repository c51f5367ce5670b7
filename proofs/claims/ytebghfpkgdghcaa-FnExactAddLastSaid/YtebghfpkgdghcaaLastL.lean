/-
  Slices of Last: as lists; copied, compared, marked, asked for their marks; each for every slice that reads as the given list.
-/
import Derived.Test.YtebghfpkgdghcaaApp
import Derived.Test.YtebghfpkgdghcaaTo
namespace Go.Proofs.Ytebghfpkgdghcaa
open Go.RowKit
set_option maxHeartbeats 1000000

structure LastD where
  s : ByteArray
  l : Int
  b : Int
  i : Int
  h : Int
  p : Int
def LastD.zero : LastD := ⟨ByteArray.empty, 0, 0, 0, 0, 0⟩
/-- As cells. -/
def LastD.cells (x : LastD) : List Value := [.string x.s, .int .i64 x.l, .int .i64 x.b, .int .i64 x.i, .int .i64 x.h, .int .i64 x.p]
def lasts (xs : List LastD) : List Value := xs.flatMap LastD.cells
/-- The element at a place. -/
def lastsAt (xs : List LastD) (k : Nat) : LastD := xs.getD k LastD.zero
theorem lasts_nil : lasts [] = [] := rfl
theorem lasts_cons (x : LastD) (xs : List LastD) : lasts (x :: xs) = x.cells ++ lasts xs := rfl
theorem lasts_append (xs ys : List LastD) : lasts (xs ++ ys) = lasts xs ++ lasts ys := by simp [lasts]
theorem lasts_len (xs : List LastD) : (lasts xs).length = xs.length * 6 := by
  induction xs with
  | nil => rfl
  | cons x xs ih => rw [lasts_cons, List.length_append, ih]; simp [LastD.cells]; omega
theorem lasts_eq {xs : List LastD} {k : Nat} (h : k < xs.length) : xs[k] = lastsAt xs k := by unfold lastsAt; rw [List.getD_eq_getElem?_getD, List.getElem?_eq_getElem h]; rfl
theorem lasts_get0 {xs : List LastD} : ∀ {k : Nat}, k < xs.length → (lasts xs)[k * 6]? = some (.string (lastsAt xs k).s) := by
  induction xs with
  | nil => intro k h; simp at h
  | cons x xs ih =>
    intro k h
    cases k with
    | zero => rfl
    | succ k =>
      have e : (k + 1) * 6 = x.cells.length + (k * 6) := by simp [LastD.cells]; omega
      rw [lasts_cons, e, List.getElem?_append_right (by omega), Nat.add_sub_cancel_left, ih (by simpa using h)]
      rfl
theorem lasts_get1 {xs : List LastD} : ∀ {k : Nat}, k < xs.length → (lasts xs)[k * 6 + 1]? = some (.int .i64 (lastsAt xs k).l) := by
  induction xs with
  | nil => intro k h; simp at h
  | cons x xs ih =>
    intro k h
    cases k with
    | zero => rfl
    | succ k =>
      have e : (k + 1) * 6 + 1 = x.cells.length + (k * 6 + 1) := by simp [LastD.cells]; omega
      rw [lasts_cons, e, List.getElem?_append_right (by omega), Nat.add_sub_cancel_left, ih (by simpa using h)]
      rfl
theorem lasts_get2 {xs : List LastD} : ∀ {k : Nat}, k < xs.length → (lasts xs)[k * 6 + 2]? = some (.int .i64 (lastsAt xs k).b) := by
  induction xs with
  | nil => intro k h; simp at h
  | cons x xs ih =>
    intro k h
    cases k with
    | zero => rfl
    | succ k =>
      have e : (k + 1) * 6 + 2 = x.cells.length + (k * 6 + 2) := by simp [LastD.cells]; omega
      rw [lasts_cons, e, List.getElem?_append_right (by omega), Nat.add_sub_cancel_left, ih (by simpa using h)]
      rfl
theorem lasts_get3 {xs : List LastD} : ∀ {k : Nat}, k < xs.length → (lasts xs)[k * 6 + 3]? = some (.int .i64 (lastsAt xs k).i) := by
  induction xs with
  | nil => intro k h; simp at h
  | cons x xs ih =>
    intro k h
    cases k with
    | zero => rfl
    | succ k =>
      have e : (k + 1) * 6 + 3 = x.cells.length + (k * 6 + 3) := by simp [LastD.cells]; omega
      rw [lasts_cons, e, List.getElem?_append_right (by omega), Nat.add_sub_cancel_left, ih (by simpa using h)]
      rfl
theorem lasts_get4 {xs : List LastD} : ∀ {k : Nat}, k < xs.length → (lasts xs)[k * 6 + 4]? = some (.int .i64 (lastsAt xs k).h) := by
  induction xs with
  | nil => intro k h; simp at h
  | cons x xs ih =>
    intro k h
    cases k with
    | zero => rfl
    | succ k =>
      have e : (k + 1) * 6 + 4 = x.cells.length + (k * 6 + 4) := by simp [LastD.cells]; omega
      rw [lasts_cons, e, List.getElem?_append_right (by omega), Nat.add_sub_cancel_left, ih (by simpa using h)]
      rfl
theorem lasts_get5 {xs : List LastD} : ∀ {k : Nat}, k < xs.length → (lasts xs)[k * 6 + 5]? = some (.int .i64 (lastsAt xs k).p) := by
  induction xs with
  | nil => intro k h; simp at h
  | cons x xs ih =>
    intro k h
    cases k with
    | zero => rfl
    | succ k =>
      have e : (k + 1) * 6 + 5 = x.cells.length + (k * 6 + 5) := by simp [LastD.cells]; omega
      rw [lasts_cons, e, List.getElem?_append_right (by omega), Nat.add_sub_cancel_left, ih (by simpa using h)]
      rfl
theorem lasts_set0 {xs : List LastD} (v : ByteArray) : ∀ {k : Nat}, k < xs.length → (lasts xs).set (k * 6) (.string v) = lasts (xs.set k { lastsAt xs k with s := v }) := by
  induction xs with
  | nil => intro k h; simp at h
  | cons x xs ih =>
    intro k h
    cases k with
    | zero => rfl
    | succ k =>
      have e : (k + 1) * 6 = x.cells.length + (k * 6) := by simp [LastD.cells]; omega
      rw [lasts_cons, e, List.set_append_right _ _ (by omega), Nat.add_sub_cancel_left, ih (by simpa using h)]
      rfl
theorem lasts_set1 {xs : List LastD} (v : Int) : ∀ {k : Nat}, k < xs.length → (lasts xs).set (k * 6 + 1) (.int .i64 v) = lasts (xs.set k { lastsAt xs k with l := v }) := by
  induction xs with
  | nil => intro k h; simp at h
  | cons x xs ih =>
    intro k h
    cases k with
    | zero => rfl
    | succ k =>
      have e : (k + 1) * 6 + 1 = x.cells.length + (k * 6 + 1) := by simp [LastD.cells]; omega
      rw [lasts_cons, e, List.set_append_right _ _ (by omega), Nat.add_sub_cancel_left, ih (by simpa using h)]
      rfl
theorem lasts_set2 {xs : List LastD} (v : Int) : ∀ {k : Nat}, k < xs.length → (lasts xs).set (k * 6 + 2) (.int .i64 v) = lasts (xs.set k { lastsAt xs k with b := v }) := by
  induction xs with
  | nil => intro k h; simp at h
  | cons x xs ih =>
    intro k h
    cases k with
    | zero => rfl
    | succ k =>
      have e : (k + 1) * 6 + 2 = x.cells.length + (k * 6 + 2) := by simp [LastD.cells]; omega
      rw [lasts_cons, e, List.set_append_right _ _ (by omega), Nat.add_sub_cancel_left, ih (by simpa using h)]
      rfl
theorem lasts_set3 {xs : List LastD} (v : Int) : ∀ {k : Nat}, k < xs.length → (lasts xs).set (k * 6 + 3) (.int .i64 v) = lasts (xs.set k { lastsAt xs k with i := v }) := by
  induction xs with
  | nil => intro k h; simp at h
  | cons x xs ih =>
    intro k h
    cases k with
    | zero => rfl
    | succ k =>
      have e : (k + 1) * 6 + 3 = x.cells.length + (k * 6 + 3) := by simp [LastD.cells]; omega
      rw [lasts_cons, e, List.set_append_right _ _ (by omega), Nat.add_sub_cancel_left, ih (by simpa using h)]
      rfl
theorem lasts_set4 {xs : List LastD} (v : Int) : ∀ {k : Nat}, k < xs.length → (lasts xs).set (k * 6 + 4) (.int .i64 v) = lasts (xs.set k { lastsAt xs k with h := v }) := by
  induction xs with
  | nil => intro k h; simp at h
  | cons x xs ih =>
    intro k h
    cases k with
    | zero => rfl
    | succ k =>
      have e : (k + 1) * 6 + 4 = x.cells.length + (k * 6 + 4) := by simp [LastD.cells]; omega
      rw [lasts_cons, e, List.set_append_right _ _ (by omega), Nat.add_sub_cancel_left, ih (by simpa using h)]
      rfl
theorem lasts_set5 {xs : List LastD} (v : Int) : ∀ {k : Nat}, k < xs.length → (lasts xs).set (k * 6 + 5) (.int .i64 v) = lasts (xs.set k { lastsAt xs k with p := v }) := by
  induction xs with
  | nil => intro k h; simp at h
  | cons x xs ih =>
    intro k h
    cases k with
    | zero => rfl
    | succ k =>
      have e : (k + 1) * 6 + 5 = x.cells.length + (k * 6 + 5) := by simp [LastD.cells]; omega
      rw [lasts_cons, e, List.set_append_right _ _ (by omega), Nat.add_sub_cancel_left, ih (by simpa using h)]
      rfl
theorem lastsAt_set {xs : List LastD} {k j : Nat} {x : LastD} (hk : k < xs.length) : lastsAt (xs.set k x) j = if j = k then x else lastsAt xs j := by
  unfold lastsAt
  rw [List.getD_eq_getElem?_getD, List.getD_eq_getElem?_getD, List.getElem?_set]
  by_cases h : j = k
  · subst h; simp [hk]
  · have h' : ¬ k = j := fun e => h e.symm
    simp [h, h']
theorem ext_lasts {ys xs : List LastD} (hl : ys.length = xs.length) (h : ∀ j, j < xs.length → lastsAt ys j = lastsAt xs j) : ys = xs := by
  apply List.ext_getElem hl
  intro j h1 h2
  rw [lasts_eq h1, lasts_eq h2]
  exact h j h2
theorem Rd.lasts_length {w : World} {A : Option Addr} {n : Nat} {xs : List LastD} (h : Rd w 6 A n (lasts xs)) : xs.length = n := by have := h.1; rw [lasts_len] at this; omega
/-- The cells of an element. -/
theorem Rd.lasts {w : World} {A : Option Addr} {n : Nat} {xs : List LastD} (h : Rd w 6 A n (lasts xs)) {k : Nat} (hk : k < n) :
    ∃ b off, A = some ⟨b, off, none⟩ ∧ b < w.heap.size ∧ w.cell? ⟨b, off + k * 6, none⟩ = some (.string (lastsAt xs k).s) ∧ w.cell? ⟨b, off + k * 6 + 1, none⟩ = some (.int .i64 (lastsAt xs k).l) ∧ w.cell? ⟨b, off + k * 6 + 2, none⟩ = some (.int .i64 (lastsAt xs k).b) ∧ w.cell? ⟨b, off + k * 6 + 3, none⟩ = some (.int .i64 (lastsAt xs k).i) ∧ w.cell? ⟨b, off + k * 6 + 4, none⟩ = some (.int .i64 (lastsAt xs k).h) ∧ w.cell? ⟨b, off + k * 6 + 5, none⟩ = some (.int .i64 (lastsAt xs k).p) := by
  have hl := h.lasts_length
  obtain ⟨b, off, e, hb, hc⟩ := h.2 (by omega)
  exact ⟨b, off, e, hb, hc _ _ (lasts_get0 (by omega)), by rw [Nat.add_assoc]; exact hc _ _ (lasts_get1 (by omega)), by rw [Nat.add_assoc]; exact hc _ _ (lasts_get2 (by omega)), by rw [Nat.add_assoc]; exact hc _ _ (lasts_get3 (by omega)), by rw [Nat.add_assoc]; exact hc _ _ (lasts_get4 (by omega)), by rw [Nat.add_assoc]; exact hc _ _ (lasts_get5 (by omega))⟩
theorem own_lasts_len {w : World} {base : Nat} {E : TypeId} {v : Value} {n : Nat} {xs : List LastD} (h : w.ownsRow base E 6 v n (lasts xs)) : xs.length = n := by have := h.1; rw [lasts_len] at this; omega
end Go.Proofs.Ytebghfpkgdghcaa
