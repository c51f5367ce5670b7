/-
  Growth, the plain law: sums, the slope of a line through points, its bounds and its two spellings; no condition: nothing here speaks of the program.
-/
import Derived.Test.YtlmjchmbbmiocaaMid
import Derived.Test.YtlmjchmbbmiocaaLayers
namespace Go.Proofs.Ytlmjchmbbmiocaa
open Go.RowKit

/-- The sum of f over the first k numbers. -/
def ps (f : Nat → Int) : Nat → Int
  | 0 => 0
  | k + 1 => ps f k + f k
theorem ps_abs {f : Nat → Int} {M : Int} (hM : 0 ≤ M) : ∀ {k : Nat}, k ≤ 30 → (∀ j, j < k → -M ≤ f j ∧ f j ≤ M) → -((k : Int) * M) ≤ ps f k ∧ ps f k ≤ (k : Int) * M
  | 0, _, _ => by simp [ps]
  | k + 1, hk, h => by
    have h1 := ps_abs hM (k := k) (by omega) (fun j hj => h j (by omega))
    have h2 := h k (by omega)
    have h3 : ((k + 1 : Nat) : Int) * M = (k : Int) * M + M := by rw [Int.natCast_add, Int.add_mul]; simp
    rw [h3]
    simp only [ps]
    omega
theorem ps_abs30 {f : Nat → Int} {k : Nat} (hk : k ≤ 30) (M C : Int) (hC : 30 * M = C) (hM : 0 ≤ M) (h : ∀ j, j < k → -M ≤ f j ∧ f j ≤ M) : -C ≤ ps f k ∧ ps f k ≤ C := by
  have h1 := ps_abs hM hk h
  have h2 : (k : Int) * M ≤ 30 * M := Int.mul_le_mul_of_nonneg_right (by omega) hM
  omega
theorem ps_nonneg {f : Nat → Int} : ∀ {k : Nat}, (∀ j, j < k → 0 ≤ f j) → 0 ≤ ps f k
  | 0, _ => by simp [ps]
  | k + 1, h => by
    have h1 := ps_nonneg (k := k) (fun j hj => h j (by omega))
    have h2 := h k (by omega)
    simp only [ps]
    omega
theorem mul_abs {a b A B : Int} (C : Int) (ha : -A ≤ a ∧ a ≤ A) (hb : -B ≤ b ∧ b ≤ B) (hC : A * B = C) (hC0 : 0 ≤ C) : -C ≤ a * b ∧ a * b ≤ C := by
  have h1 : a.natAbs ≤ A.natAbs := by omega
  have h2 : b.natAbs ≤ B.natAbs := by omega
  have h3 := Nat.mul_le_mul h1 h2
  rw [← Int.natAbs_mul, ← Int.natAbs_mul, hC] at h3
  omega
theorem ps_dist (a b : Int) (f g : Nat → Int) : ∀ k, ps (fun j => (a - f j) * (b - g j)) k = (k : Int) * (a * b) - a * ps g k - b * ps f k + ps (fun j => f j * g j) k
  | 0 => by simp [ps]
  | k + 1 => by
    simp only [ps, ps_dist a b f g k]
    rw [Int.natCast_add]
    grind
theorem lagrange (f g : Nat → Int) : ∀ n, ps (fun i => ps (fun j => (f i - f j) * (g i - g j)) i) n = (n : Int) * ps (fun j => f j * g j) n - ps f n * ps g n
  | 0 => by simp [ps]
  | n + 1 => by
    simp only [ps, lagrange f g n, ps_dist (f n) (g n) f g n]
    rw [Int.natCast_add]
    grind
theorem sq_nonneg (a : Int) : 0 ≤ a * a := by
  rcases Int.le_total 0 a with h | h
  · exact Int.mul_nonneg h h
  · have := Int.mul_nonneg (show 0 ≤ -a by omega) (show 0 ≤ -a by omega)
    rwa [Int.neg_mul_neg] at this
/-- The sums of days and lengths. -/
def inN (ds ls : List Int) (i k : Nat) : Int := ps (fun j => (ix ds i - ix ds j) * (ix ls i - ix ls j)) k
def outN (ds ls : List Int) (k : Nat) : Int := ps (fun i => inN ds ls i i) k
def sumA (ds : List Int) (k : Nat) : Int := ps (ix ds) k
def sumP (ds ls : List Int) (k : Nat) : Int := ps (fun j => ix ds j * ix ls j) k
theorem outN_eq (ds ls : List Int) (n : Nat) : outN ds ls n = (n : Int) * sumP ds ls n - sumA ds n * sumA ls n := lagrange (ix ds) (ix ls) n
/-- The first n numbers lie within ±M. -/
def InM (zs : List Int) (n : Nat) (M : Int) : Prop := ∀ j, j < n → -M ≤ ix zs j ∧ ix zs j ≤ M
theorem AllIn.inM {zs : List Int} {n : Nat} {lo hi M : Int} (h : AllIn zs n lo hi) (h1 : -M ≤ lo) (h2 : hi ≤ M) : InM zs n M := fun j hj => by
  have := inR_true.1 (h j hj)
  omega
theorem sumA_bd {zs : List Int} {n k : Nat} {M : Int} (C : Int) (h : InM zs n M) (hk : k ≤ n) (hn : n ≤ 30) (hC : 30 * M = C) (hM : 0 ≤ M) : -C ≤ sumA zs k ∧ sumA zs k ≤ C :=
  ps_abs30 (by omega) M C hC hM fun j hj => h j (by omega)
theorem sumP_bd {us vs : List Int} {n k : Nat} {M N : Int} (C D : Int) (h : InM us n M) (h2 : InM vs n N) (hk : k ≤ n) (hn : n ≤ 30) (hC : M * N = C) (hC0 : 0 ≤ C) (hD : 30 * C = D) : -D ≤ sumP us vs k ∧ sumP us vs k ≤ D :=
  ps_abs30 (by omega) C D hD hC0 fun j hj => mul_abs C (h j (by omega)) (h2 j (by omega)) hC hC0
theorem inN_bd {us vs : List Int} {n i k : Nat} {M N : Int} (C D : Int) (h : InM us n M) (h2 : InM vs n N) (hi : i < n) (hk : k ≤ n) (hn : n ≤ 30) (hC : (2 * M) * (2 * N) = C) (hC0 : 0 ≤ C) (hD : 30 * C = D) : -D ≤ inN us vs i k ∧ inN us vs i k ≤ D :=
  ps_abs30 (by omega) C D hD hC0 fun j hj => by
    have a1 := h i hi
    have a2 := h j (by omega)
    have b1 := h2 i hi
    have b2 := h2 j (by omega)
    exact mul_abs C (by omega) (by omega) hC hC0
theorem outN_bd {us vs : List Int} {n k : Nat} {M N : Int} (C D E : Int) (h : InM us n M) (h2 : InM vs n N) (hk : k ≤ n) (hn : n ≤ 30) (hC : (2 * M) * (2 * N) = C) (hC0 : 0 ≤ C) (hD : 30 * C = D) (hE : 30 * D = E) : -E ≤ outN us vs k ∧ outN us vs k ≤ E :=
  ps_abs30 (by omega) D E hE (by omega) fun j hj => inN_bd C D h h2 (by omega) (by omega) hn hC hC0 hD
theorem outN_pos {ds : List Int} {n : Nat} (hn : 2 ≤ n) (hr : ix ds 0 < ix ds 1) : 1 ≤ outN ds ds n := by
  have h2 : 1 ≤ outN ds ds 2 := by
    have : 1 ≤ (ix ds 1 - ix ds 0) * (ix ds 1 - ix ds 0) := Int.mul_pos (by omega) (by omega)
    simp only [outN, inN, ps]
    omega
  obtain ⟨m, rfl⟩ : ∃ m, n = 2 + m := ⟨n - 2, by omega⟩
  clear hn
  induction m with
  | zero => exact h2
  | succ m ih =>
    have : 0 ≤ inN ds ds (2 + m) (2 + m) := ps_nonneg fun j _ => sq_nonneg _
    show 1 ≤ outN ds ds (2 + m) + inN ds ds (2 + m) (2 + m)
    omega
theorem outN_succ (ds ls : List Int) (k : Nat) : outN ds ls (k + 1) = outN ds ls k + inN ds ls k k := rfl
theorem inN_succ (ds ls : List Int) (i k : Nat) : inN ds ls i (k + 1) = inN ds ls i k + (ix ds i - ix ds k) * (ix ls i - ix ls k) := rfl
theorem sumA_succ (ds : List Int) (k : Nat) : sumA ds (k + 1) = sumA ds k + ix ds k := rfl
theorem sumP_succ (ds ls : List Int) (k : Nat) : sumP ds ls (k + 1) = sumP ds ls k + ix ds k * ix ls k := rfl
/-- Rounding does not see a common factor. -/
theorem rnd_scale {g x y : Int} (hg : 0 < g) : rnd (g * x) (g * y) = rnd x y := by
  unfold rnd
  have h1 : 2 * (g * x) + g * y = g * (2 * x + y) := by rw [Int.mul_add, Int.mul_left_comm]
  have h2 : 2 * (g * y) = g * (2 * y) := Int.mul_left_comm _ _ _
  rw [h1, h2, Int.mul_ediv_mul_of_pos _ _ hg]
theorem low_n (n d : Int) : gcdI n d * lowN n d = n := Int.mul_tdiv_cancel' (Int.gcd_dvd_left _ _)
theorem low_d (n d : Int) : gcdI n d * lowD n d = d := Int.mul_tdiv_cancel' (Int.gcd_dvd_right _ _)
theorem rnd_low {L n t num den : Int} (hd : 1 ≤ den) : rnd (L * lowD num den + lowN num den * t) (n * lowD num den) = rnd (L * den + num * t) (n * den) := by
  have g := gcdI_pos (a := num) hd
  rw [← rnd_scale (g := gcdI num den) (by omega)]
  have e1 := low_n num den
  have e2 := low_d num den
  generalize gcdI num den = q at *
  generalize lowN num den = x at *
  generalize lowD num den = y at *
  subst e1 e2
  congr 1 <;> grind
/-- The code of days and feet. -/
noncomputable def daysC (ds : List Int) (xs : List FootD) (day : Int) : Int :=
  if feetOk xs = false then 1 else if ds.length ≠ xs.length ∨ riseB ds 0 10000 = false ∨ inR day 0 20000 = false then 2 else if xs.length < 2 then 3 else 0
theorem daysC_ok {ds : List Int} {xs : List FootD} {day : Int} (h : daysC ds xs day = 0) : feetOk xs = true ∧ ds.length = xs.length ∧ riseB ds 0 10000 = true ∧ inR day 0 20000 = true ∧ 2 ≤ xs.length := by
  unfold daysC at h
  by_cases h1 : feetOk xs = false
  · rw [if_pos h1] at h; omega
  rw [if_neg h1] at h
  by_cases h2 : ds.length ≠ xs.length ∨ riseB ds 0 10000 = false ∨ inR day 0 20000 = false
  · rw [if_pos h2] at h; omega
  rw [if_neg h2] at h
  by_cases h3 : xs.length < 2
  · rw [if_pos h3] at h; omega
  simp only [not_or, Bool.not_eq_false, Decidable.not_not] at h1 h2
  exact ⟨h1, h2.1, h2.2.1, h2.2.2, by omega⟩
theorem ix_col {xs : List FootD} {k : Nat} (hk : k < xs.length) : ix (col xs 0) k = (feetAt xs k).l := by
  rw [← ix_eq (zs := col xs 0) (by rw [col_len]; exact hk), ← feet_eq hk]
  simp [col]
  rfl
end Go.Proofs.Ytlmjchmbbmiocaa
