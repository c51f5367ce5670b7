/-
  Slices of numbers of the laws: copied, compared, marked, asked for their marks; each for every slice that reads as the given list.
-/
import Derived.Test.YtijbaapecehamaaDoorFeet
import Derived.BigQuiet
import Derived.Deep.QuietTactic
namespace Go.Proofs.YtijbaapecehamaaDoor
open Go.RowKit
set_option maxHeartbeats 400000

theorem int_info : (Tryd.prog.info? 2).map (fun i => (i.zero, i.size, i.bytes)) = some (some (.int .i64 0), 1, 8) := by kernel_rfl

theorem ix_set {ys : List Int} {k j : Nat} {x : Int} (hk : k < ys.length) : ix (ys.set k x) j = if j = k then x else ix ys j := by
  unfold ix
  rw [List.getD_eq_getElem?_getD, List.getD_eq_getElem?_getD, List.getElem?_set]
  by_cases h : j = k
  · subst h; simp [hk]
  · have h' : ¬ k = j := fun e => h e.symm
    simp [h, h']
theorem ints_setAt (zs : List Int) (k : Nat) (x : Int) : (ints zs).set k (.int .i64 x) = ints (zs.set k x) := by simp [ints, List.map_set]
theorem ext_ix {ys zs : List Int} (hl : ys.length = zs.length) (h : ∀ j, j < zs.length → ix ys j = ix zs j) : ys = zs := by
  apply List.ext_getElem hl
  intro j h1 h2
  rw [ix_eq h1, ix_eq h2]
  exact h j h2
/-- The first k elements agree. -/
def Agree (ys zs : List Int) (k : Nat) : Prop := ∀ j, j < k → ix ys j = ix zs j
theorem Agree.step {ys zs : List Int} {k : Nat} (h : Agree ys zs k) (hk : k < ys.length) : Agree (ys.set k (ix zs k)) zs (k + 1) := fun j hj => by
  rw [ix_set hk]
  by_cases e : j = k
  · subst e; simp
  · simp [e]; exact h j (by omega)
/-- The first k elements are the marks from m on. -/
def Marks (ys : List Int) (m : Int) (k : Nat) : Prop := ∀ j, j < k → ix ys j = m + j
theorem Marks.step {ys : List Int} {m : Int} {k : Nat} (h : Marks ys m k) (hk : k < ys.length) : Marks (ys.set k (m + k)) m (k + 1) := fun j hj => by
  rw [ix_set hk]
  by_cases e : j = k
  · subst e; simp
  · simp [e]; exact h j (by omega)

/-- A row of the call's own that holds numbers. -/
theorem own_int_len {w : World} {base : Nat} {E : TypeId} {v : Value} {n : Nat} {zs : List Int} (h : w.ownsRow base E 1 v n (ints zs)) : zs.length = n := by have := h.1; simpa [ints] using this
theorem own_grown_below {w w' : World} {g : Nat} (h : w.grownBy w' (some g)) {B : Nat} (hB : B ≤ g) (hw : B ≤ w.heap.size) : Below B w w' :=
  (Below.refl _ _).grown h hw (fun k hk => by cases hk; exact hB)
theorem own_form {w : World} {base k : Nat} {E : TypeId} {A : Option Addr} {n c : Nat} {xs : List Value} (h : w.ownsRow base E k (.slice A n c) n xs) (hn : 0 < n) :
    ∃ g, A = some ⟨g, 0, none⟩ ∧ base ≤ g ∧ g < w.heap.size ∧ n ≤ c ∧ c ≤ maxLen := by
  rcases h.2 with ⟨hv, h0⟩ | ⟨g, cap, cur, hv, hb, hg, hnc, hcm, _⟩
  · omega
  · simp only [Value.slice.injEq, true_and] at hv
    obtain ⟨rfl, rfl⟩ := hv
    refine ⟨g, rfl, hb, ?_, hnc, hcm⟩
    rcases Nat.lt_or_ge g w.heap.size with hlt | hge
    · exact hlt
    · rw [Array.getElem?_eq_none hge] at hg; cases hg

theorem gtrans {a b c : World} {row : Option Nat} (h : a.grownBy b row) (k : b.grownBy c row) : a.grownBy c row :=
  ⟨k.os.trans h.os, k.tape.trans h.tape, k.output.trans h.output, Nat.le_trans h.size k.size, fun i hi hne => (k.block i (Nat.lt_of_lt_of_le hi h.size) hne).trans (h.block i hi hne)⟩
end Go.Proofs.YtijbaapecehamaaDoor
