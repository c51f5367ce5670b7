/-
  Lists of numbers that are changed place by place, from the first on; the four measures as the reference lists them; no condition.
-/
import Derived.Test.YtebghfpkgdghcaaApp
namespace Go.Proofs.Ytebghfpkgdghcaa
open Go.RowKit
set_option maxHeartbeats 400000

/-- The list whose first k elements have been changed. -/
def upd (g : Nat → Int → Int) (zs : List Int) (k : Nat) : List Int := zs.mapIdx fun j z => if j < k then g j z else z
theorem upd_zero (g : Nat → Int → Int) (zs : List Int) : upd g zs 0 = zs := by
  unfold upd
  refine List.ext_getElem (by simp) fun i h1 h2 => ?_
  simp
theorem upd_len (g : Nat → Int → Int) (zs : List Int) (k : Nat) : (upd g zs k).length = zs.length := by simp [upd]
theorem upd_ix {g : Nat → Int → Int} {zs : List Int} {k : Nat} (h : k < zs.length) : ix (upd g zs k) k = ix zs k := by
  rw [← ix_eq (by rw [upd_len]; exact h), ← ix_eq h]
  simp [upd]
theorem upd_step {g : Nat → Int → Int} {zs : List Int} {k : Nat} {x : Int} (h : k < zs.length) (hx : x = g k (ix zs k)) : (upd g zs k).set k x = upd g zs (k + 1) := by
  subst hx
  refine List.ext_getElem (by simp [upd]) fun i h1 h2 => ?_
  have hi : i < zs.length := by simpa [upd_len] using h2
  rw [List.getElem_set]
  by_cases e : k = i
  · subst e
    simp [upd, ix_eq h]
  · rw [if_neg e]
    simp only [upd, List.getElem_mapIdx]
    by_cases hlt : i < k
    · rw [if_pos hlt, if_pos (by omega)]
    · rw [if_neg hlt, if_neg (by omega)]
end Go.Proofs.Ytebghfpkgdghcaa
