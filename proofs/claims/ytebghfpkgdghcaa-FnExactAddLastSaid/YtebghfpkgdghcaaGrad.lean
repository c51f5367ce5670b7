/-
  Lasts after half sizes: the grown last of the program and of the reference; the bounds are those that valid lasts and grades have.
-/
import Derived.Test.YtebghfpkgdghcaaLast
import Derived.Test.YtebghfpkgdghcaaGrade
import Derived.Test.YtebghfpkgdghcaaNum
import Derived.Test.YtebghfpkgdghcaaUpd
import Derived.Test.YtebghfpkgdghcaaBlk
import Derived.Deep.RegionHeld3
import Derived.StillTailTactics
namespace Go.Proofs.Ytebghfpkgdghcaa
open Go.RowKit
set_option maxHeartbeats 800000

/-- A measure after some half sizes. -/
def grow1 (n each t : Int) : Int := n + rnd (each * t) 100
theorem gradeOk_bd {a b c d f : Int} (hh : gradeOk a b c d f = true) : (0 ≤ a ∧ a ≤ 20000) ∧ (0 ≤ b ∧ b ≤ 20000) ∧ (0 ≤ c ∧ c ≤ 20000) ∧ (0 ≤ d ∧ d ≤ 20000) ∧ (0 ≤ f ∧ f ≤ 20000) := by
  simp only [gradeOk, outB, List.any_cons, List.any_nil, Bool.or_false, Bool.not_eq_true', Bool.or_eq_false_iff, Bool.not_eq_false', inR_true] at hh
  omega
theorem each_bd {e t : Int} (h1 : 0 ≤ e) (h2 : e ≤ 20000) (h3 : -30 ≤ t) (h4 : t ≤ 30) : -600000 ≤ e * t ∧ e * t ≤ 600000 := by
  have := Int.mul_le_mul_of_nonneg_left h4 h1
  have := Int.mul_le_mul_of_nonneg_left h3 h1
  omega
theorem each_rnd {e t : Int} (h1 : 0 ≤ e) (h2 : e ≤ 20000) (h3 : -30 ≤ t) (h4 : t ≤ 30) : -600001 ≤ rnd (e * t) 100 ∧ rnd (e * t) 100 ≤ 600001 := by
  obtain ⟨a, b⟩ := each_bd h1 h2 h3 h4
  exact rnd_bd (by omega) 600000 (by omega) (by omega)
end Go.Proofs.Ytebghfpkgdghcaa
