/-
  Numbers: the greatest common divisor, fractions in lowest terms, rounding, distances; each function of the program and of the reference returns the named value within the given bounds.
-/
import Derived.Test.YtebghfpkgdghcaaScal
import Derived.BigQuiet
import Derived.Deep.QuietTactic
import Derived.RegionTactic
namespace Go.Proofs.Ytebghfpkgdghcaa
open Go.RowKit
set_option maxHeartbeats 400000

/-! ### The plain law. -/
def gcdI (a b : Int) : Int := (Int.gcd a b : Int)
theorem gcd_step (a b : Int) : Int.gcd b (a.tmod b) = Int.gcd a b := by
  unfold Int.gcd
  rw [Int.natAbs_tmod, Nat.gcd_comm a.natAbs b.natAbs]
  exact (Nat.gcd_rec b.natAbs a.natAbs).symm ▸ (Nat.gcd_comm _ _)
theorem gcd_zero (a : Int) : Int.gcd a 0 = a.natAbs := by simp [Int.gcd]
theorem tmod_bd (a b M : Int) (h1 : -M ≤ a ∧ a ≤ M) : -M ≤ a.tmod b ∧ a.tmod b ≤ M := by
  have h := Int.natAbs_tmod a b
  have h2 : a.natAbs % b.natAbs ≤ a.natAbs := Nat.mod_le _ _
  omega
theorem tmod_lt (a b : Int) (hb : b ≠ 0) : (a.tmod b).natAbs < b.natAbs := by
  rw [Int.natAbs_tmod]; exact Nat.mod_lt _ (by omega)
theorem gcdI_pos {a b : Int} (hb : 1 ≤ b) : 1 ≤ gcdI a b := by
  unfold gcdI
  have : 0 < Int.gcd a b := Int.gcd_pos_of_ne_zero_right a (by omega)
  omega
theorem gcdI_le {a b : Int} (hb : 1 ≤ b) : gcdI a b ≤ b := by
  unfold gcdI
  have h : Int.gcd a b ∣ b.natAbs := Nat.gcd_dvd_right _ _
  have := Nat.le_of_dvd (by omega) h
  omega
theorem tdiv_bd (a g M : Int) (h1 : -M ≤ a ∧ a ≤ M) : -M ≤ a.tdiv g ∧ a.tdiv g ≤ M := by
  have h : (a.tdiv g).natAbs = a.natAbs / g.natAbs := Int.natAbs_tdiv a g
  have h2 : a.natAbs / g.natAbs ≤ a.natAbs := Nat.div_le_self _ _
  omega
/-- The fraction num / den in lowest terms, den positive. -/
def lowN (n d : Int) : Int := n.tdiv (gcdI n d)
def lowD (n d : Int) : Int := d.tdiv (gcdI n d)
def szI (n : Int) : Int := if n < 0 then -n else n
theorem szI_eq (n : Int) : szI n = (n.natAbs : Int) := by unfold szI; split <;> omega
theorem gcdI_sz (n d : Int) : gcdI (szI n) d = gcdI n d := by
  unfold gcdI; rw [szI_eq]; simp [Int.gcd]
/-- num / den, rounded to the nearest integer, half up. -/
def rnd (n d : Int) : Int := (2 * n + d) / (2 * d)
theorem floor_neg {x y : Int} (hy : 0 < y) (h : x.tmod y < 0) : x.tdiv y - 1 = x / y := by
  have hx : ¬ 0 ≤ x := fun h0 => by have := Int.tmod_nonneg y h0; omega
  have hd : ¬ y ∣ x := fun h0 => by rw [Int.tmod_eq_zero_of_dvd h0] at h; omega
  have h1 := Int.tdiv_eq_ediv (a := x) (b := y)
  rw [if_neg (by intro h'; rcases h' with h' | h'; exact hx h'; exact hd h'), Int.sign_eq_one_of_pos hy] at h1
  omega
theorem floor_pos {x y : Int} (_hy : 0 < y) (h : ¬ x.tmod y < 0) : x.tdiv y = x / y := by
  have h1 := Int.tdiv_eq_ediv (a := x) (b := y)
  by_cases hx : 0 ≤ x
  · rw [if_pos (.inl hx)] at h1; omega
  · have h0 : x.tmod y = 0 := by have := Int.tmod_nonneg y (show 0 ≤ -x by omega); rw [Int.neg_tmod] at this; omega
    rw [if_pos (.inr (Int.dvd_of_tmod_eq_zero h0))] at h1; omega

theorem rnd_bd {n d : Int} (hd : 1 ≤ d) (M : Int) (h : -M ≤ n ∧ n ≤ M) (hM : 0 ≤ M) : -M - 1 ≤ rnd n d ∧ rnd n d ≤ M + 1 := by
  unfold rnd
  constructor
  · apply Int.le_ediv_of_mul_le (by omega)
    have : (-M - 1) * (2 * d) ≤ -2 * M + d := by
      have h1 : M * 1 ≤ M * d := Int.mul_le_mul_of_nonneg_left hd hM
      have h2 : (-M - 1) * (2 * d) = -2 * (M * d) - 2 * d := by rw [Int.sub_mul, Int.neg_mul, Int.one_mul, Int.mul_left_comm]; omega
      rw [h2]; omega
    omega
  · apply Int.ediv_le_of_le_mul (by omega)
    have h1 : M * 1 ≤ M * d := Int.mul_le_mul_of_nonneg_left hd hM
    have h2 : (M + 1) * (2 * d) = 2 * (M * d) + 2 * d := by rw [Int.add_mul, Int.one_mul, Int.mul_left_comm]
    rw [h2]; omega

/-! ### The walks. -/
/-- Within the bounds of all that is computed here. -/
def Mid (a : Int) : Prop := -1000000000000000000 ≤ a ∧ a ≤ 1000000000000000000
theorem Mid.out {a : Int} (h : Mid a) : -1000000000000000000 ≤ a ∧ a ≤ 1000000000000000000 := h
def GcdRel (a b x y : Int) : Prop := Int.gcd x y = Int.gcd a b ∧ Mid x ∧ Mid y
theorem GcdRel.step {a b x y : Int} (h : GcdRel a b x y) : GcdRel a b y (x.tmod y) := ⟨(gcd_step x y).trans h.1, h.2.2, tmod_bd x y _ h.2.1⟩
theorem GcdRel.last {a b x : Int} (h : GcdRel a b x 0) : gcdI a b = szI x := by unfold gcdI; rw [← h.1, gcd_zero, szI_eq]
end Go.Proofs.Ytebghfpkgdghcaa
