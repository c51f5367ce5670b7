/-
  How many builds there are: the table of counts, and a bound for it. Plain laws.
-/
import Derived.Test.YtgaahmcbfognhaaLayers
import Derived.Test.YtgaahmcbfognhaaInts
namespace Go.Proofs.Ytgaahmcbfognhaa

/-- The counts with one layer more, k rounds at most. -/
def stepN (f : Nat → Nat) (l : Nat) : Nat → Nat → Nat
  | 0, n => f n
  | k + 1, n => f n + (if l ≤ n then stepN f l k (n - l) else 0)
theorem stepN_fuel (f : Nat → Nat) (l : Nat) (hl : 0 < l) : ∀ n k, n ≤ k → stepN f l k n = stepN f l n n := by
  intro n
  induction n using Nat.strongRecOn with
  | _ n ih =>
    intro k hk
    cases n with
    | zero =>
      cases k with
      | zero => rfl
      | succ k =>
        show f 0 + _ = f 0
        rw [if_neg (by omega)]; rfl
    | succ m =>
      cases k with
      | zero => omega
      | succ k =>
        show f (m + 1) + _ = f (m + 1) + _
        by_cases h : l ≤ m + 1
        · rw [if_pos h, if_pos h, ih (m + 1 - l) (by omega) k (by omega), ih (m + 1 - l) (by omega) m (by omega)]
        · rw [if_neg h, if_neg h]
def stepC (f : Nat → Nat) (l n : Nat) : Nat := stepN f l n n
theorem stepC_low {f : Nat → Nat} {l n : Nat} (h : n < l) : stepC f l n = f n := by
  unfold stepC
  cases n with
  | zero => rfl
  | succ m =>
    show f (m + 1) + _ = _
    rw [if_neg (by omega)]; rfl
theorem stepC_at {f : Nat → Nat} {l n : Nat} (hl : 0 < l) (h : l ≤ n) : stepC f l n = f n + stepC f l (n - l) := by
  unfold stepC
  cases n with
  | zero => omega
  | succ m =>
    show f (m + 1) + _ = _
    rw [if_pos h, stepN_fuel f l hl (m + 1 - l) m (by omega)]
theorem stepC_le {f : Nat → Nat} {l B N : Nat} (hl : 0 < l) (hf : ∀ m, m ≤ N → f m ≤ B) : ∀ n, n ≤ N → stepC f l n ≤ B * (n / l + 1) := by
  intro n
  induction n using Nat.strongRecOn with
  | _ n ih =>
    intro hn
    rcases Nat.lt_or_ge n l with h | h
    · rw [stepC_low h, Nat.div_eq_of_lt h]; have := hf n hn; omega
    · have h1 := ih (n - l) (by omega) (by omega)
      have h2 := hf n hn
      rw [stepC_at hl h, Nat.div_eq_sub_div hl h]
      rw [Nat.mul_add, Nat.mul_one]
      omega
theorem stepC_first {l : Nat} (hl : 0 < l) : ∀ n, stepC (fun m => if m = 0 then 1 else 0) l n ≤ 1 := by
  intro n
  induction n using Nat.strongRecOn with
  | _ n ih =>
    rcases Nat.lt_or_ge n l with h | h
    · rw [stepC_low h]; split <;> omega
    · rw [stepC_at hl h, if_neg (by omega)]
      have := ih (n - l) (by omega)
      omega
/-- In how many ways the first i layers come to n. -/
def cntW (zs : List Int) : Nat → Nat → Nat
  | 0, n => if n = 0 then 1 else 0
  | i + 1, n => stepC (cntW zs i) (ix zs i).toNat n
theorem rise_ge {zs : List Int} {lo hi : Int} (h : RiseTo zs lo hi zs.length) : ∀ i, i < zs.length → lo + i ≤ ix zs i := by
  intro i
  induction i with
  | zero => intro hi; have := inR_true.1 (h.1 0 hi); omega
  | succ i ih => intro hi; have h1 := ih (by omega); have h2 := h.2 (i + 1) (by omega) hi; simp only [Nat.add_sub_cancel] at h2; omega
def Bnd : Nat → Nat
  | 0 => 1
  | 1 => 1
  | k + 2 => Bnd (k + 1) * (1000 / (k + 2) + 1)
theorem Bnd_le {i : Nat} (h : i ≤ 8) : Bnd i ≤ 25402533063711804 := by
  rcases (show i = 0 ∨ i = 1 ∨ i = 2 ∨ i = 3 ∨ i = 4 ∨ i = 5 ∨ i = 6 ∨ i = 7 ∨ i = 8 by omega) with rfl | rfl | rfl | rfl | rfl | rfl | rfl | rfl | rfl <;> decide
theorem cntW_bd {zs : List Int} (h : RiseTo zs 1 200 zs.length) : ∀ i, i ≤ zs.length → ∀ n, n ≤ 1000 → cntW zs i n ≤ Bnd i := by
  intro i
  match i with
  | 0 => intro _ n _; show (if n = 0 then 1 else 0) ≤ 1; split <;> omega
  | 1 =>
    intro hi n _
    have := rise_ge h 0 (by omega)
    exact stepC_first (l := (ix zs 0).toNat) (by omega) n
  | k + 2 =>
    intro hi n hn
    have h1 := rise_ge h (k + 1) (by omega)
    have ih := cntW_bd h (k + 1) (by omega)
    have h2 := stepC_le (f := cntW zs (k + 1)) (l := (ix zs (k + 1)).toNat) (B := Bnd (k + 1)) (N := 1000) (by omega) ih n hn
    refine Nat.le_trans h2 (Nat.mul_le_mul_left _ ?_)
    have h3 : n / (ix zs (k + 1)).toNat ≤ 1000 / (k + 2) := Nat.le_trans (Nat.div_le_div_right hn) (Nat.div_le_div_left (by omega) (by omega))
    omega
/-- A count is told no further than this. -/
def capM (n : Nat) : Nat := if 1000000000001 ≤ n then 1000000000001 else n
theorem capM_add (a b : Nat) : capM (capM a + capM b) = capM (a + b) := by
  unfold capM; repeat' split
  all_goals omega
theorem layersOk_bd {zs : List Int} (h : layersOk zs = true) : 1 ≤ zs.length ∧ zs.length ≤ 8 ∧ RiseTo zs 1 200 zs.length := by
  simp only [layersOk, Bool.and_eq_true] at h
  have := inR_true.1 h.1
  exact ⟨by omega, by omega, riseB_true h.2⟩
/-- The table while layer i is worked in: below k with it, from k on without it. -/
def Mid (g : Nat → Nat) (zs ys : List Int) (i k : Nat) : Prop := ∀ n, n < ys.length → ix ys n = ((if n < k then g (cntW zs (i + 1) n) else g (cntW zs i n) : Nat) : Int)
theorem Mid.enter {g : Nat → Nat} {zs ys : List Int} {i : Nat} (h : ∀ n, n < ys.length → ix ys n = ((g (cntW zs i n) : Nat) : Int)) : Mid g zs ys i (ix zs i).toNat := fun n hn => by
  rw [h n hn]
  split
  · rename_i hl; rw [show cntW zs (i + 1) n = cntW zs i n from stepC_low hl]
  · rfl
theorem Mid.leave {g : Nat → Nat} {zs ys : List Int} {i k : Nat} (h : Mid g zs ys i k) (hk : ys.length ≤ k) : ∀ n, n < ys.length → ix ys n = ((g (cntW zs (i + 1) n) : Nat) : Int) := fun n hn => by
  rw [h n hn, if_pos (by omega)]
theorem Mid.vals {g : Nat → Nat} {zs ys : List Int} {i k : Nat} (h : Mid g zs ys i k) (hl : 0 < (ix zs i).toNat) (h1 : (ix zs i).toNat ≤ k) (hk : k < ys.length) :
    ix ys k = ((g (cntW zs i k) : Nat) : Int) ∧ ix ys (k - (ix zs i).toNat) = ((g (cntW zs (i + 1) (k - (ix zs i).toNat)) : Nat) : Int) ∧ cntW zs (i + 1) k = cntW zs i k + cntW zs (i + 1) (k - (ix zs i).toNat) :=
  ⟨by rw [h k hk, if_neg (by omega)], by rw [h _ (by omega), if_pos (by omega)], stepC_at hl h1⟩
theorem Mid.step {g : Nat → Nat} {zs ys : List Int} {i k : Nat} {x : Int} (h : Mid g zs ys i k) (hk : k < ys.length) (hx : x = ((g (cntW zs (i + 1) k) : Nat) : Int)) : Mid g zs (ys.set k x) i (k + 1) := fun n hn => by
  rw [List.length_set] at hn
  rw [ix_set hk]
  by_cases e : n = k
  · subst e; rw [if_pos rfl, if_pos (by omega)]; exact hx
  · rw [if_neg e, h n hn]
    by_cases h2 : n < k
    · rw [if_pos h2, if_pos (by omega)]
    · rw [if_neg h2, if_neg (by omega)]
/-- What CountBuilds answers. -/
noncomputable def countR (zs : List Int) (sum : Int) : Int × Int :=
  if layersOk zs = false then (0, 1) else if inR sum 0 1000 = false then (0, 2) else if 1000000000000 < cntW zs zs.length sum.toNat then (0, 5) else ((cntW zs zs.length sum.toNat : Nat), 0)
end Go.Proofs.Ytgaahmcbfognhaa
