/-
  SpreadOf of the reference; the condition of a slice argument is that it reads as the given list.
-/
import Derived.Test.YtlbgognkaolamaaMid
namespace Go.Proofs.Ytlbgognkaolamaa
open Go.RowKit
set_option maxHeartbeats 1600000

theorem srt_up (zs : List Int) : Up (srt zs) (srt zs).length := fun a b hab hb => by
  have h := List.pairwise_iff_getElem.1 (List.pairwise_mergeSort (le := fun x y : Int => decide (x ≤ y)) (fun a b c h1 h2 => by simp at *; omega) (fun a b => by simp; omega) zs) a b (by have := hb; unfold srt at this; omega) hb hab
  rw [← ix_eq (zs := srt zs) hb, ← ix_eq (zs := srt zs) (by omega)]
  have h2 : (srt zs)[a]'(by omega) ≤ (srt zs)[b]'hb := of_decide_eq_true h
  exact h2
theorem ix_mem {zs : List Int} {j : Nat} (h : j < zs.length) : ix zs j ∈ zs := by rw [← ix_eq h]; exact List.getElem_mem h
theorem mem_ix {zs : List Int} {x : Int} (h : x ∈ zs) : ∃ j, j < zs.length ∧ ix zs j = x := by
  obtain ⟨j, hj, e⟩ := List.getElem_of_mem h
  exact ⟨j, hj, by rw [← ix_eq hj]; exact e⟩
/-- The least of the first m. -/
def IsMin (zs : List Int) (m : Nat) (x : Int) : Prop := (∀ j, j < m → x ≤ ix zs j) ∧ ∃ j, j < m ∧ x = ix zs j
def IsMax (zs : List Int) (m : Nat) (x : Int) : Prop := (∀ j, j < m → ix zs j ≤ x) ∧ ∃ j, j < m ∧ x = ix zs j
theorem one_le {P : Nat → Prop} (h : P 0) : ∀ j, j < 1 → P j := fun j hj => by
  obtain rfl : j = 0 := by omega
  exact h
theorem IsMin.one (zs : List Int) : IsMin zs 1 (ix zs 0) := ⟨one_le (P := fun j => ix zs 0 ≤ ix zs j) (Int.le_refl _), 0, by omega, rfl⟩
theorem IsMax.one (zs : List Int) : IsMax zs 1 (ix zs 0) := ⟨one_le (P := fun j => ix zs j ≤ ix zs 0) (Int.le_refl _), 0, by omega, rfl⟩
def mn2 (a b : Int) : Int := if a < b then a else b
def mx2 (a b : Int) : Int := if a > b then a else b
theorem IsMin.step {zs : List Int} {m : Nat} {x : Int} (h : IsMin zs m x) : IsMin zs (m + 1) (mn2 x (ix zs m)) := by
  unfold mn2
  by_cases hc : x < ix zs m
  · rw [if_pos hc]
    obtain ⟨j, hj, e⟩ := h.2
    exact ⟨fun i hi => by rcases Nat.lt_or_ge i m with h1 | h1
                          · exact h.1 i h1
                          · obtain rfl : i = m := by omega
                            omega, j, by omega, e⟩
  · rw [if_neg hc]
    exact ⟨fun i hi => by rcases Nat.lt_or_ge i m with h1 | h1
                          · have := h.1 i h1; omega
                          · obtain rfl : i = m := by omega
                            exact Int.le_refl _, m, by omega, rfl⟩
theorem IsMax.step {zs : List Int} {m : Nat} {x : Int} (h : IsMax zs m x) : IsMax zs (m + 1) (mx2 x (ix zs m)) := by
  unfold mx2
  by_cases hc : x > ix zs m
  · rw [if_pos hc]
    obtain ⟨j, hj, e⟩ := h.2
    exact ⟨fun i hi => by rcases Nat.lt_or_ge i m with h1 | h1
                          · exact h.1 i h1
                          · obtain rfl : i = m := by omega
                            omega, j, by omega, e⟩
  · rw [if_neg hc]
    exact ⟨fun i hi => by rcases Nat.lt_or_ge i m with h1 | h1
                          · have := h.1 i h1; omega
                          · obtain rfl : i = m := by omega
                            exact Int.le_refl _, m, by omega, rfl⟩
theorem IsMin.eq {zs : List Int} {x : Int} (h : IsMin zs zs.length x) : x = ix (srt zs) 0 := by
  obtain ⟨j, hj, e⟩ := h.2
  have h0 : 0 < (srt zs).length := by rw [srt_len]; omega
  obtain ⟨a, ha, ea⟩ := mem_ix (srt_mem.1 (ix_mem h0))
  obtain ⟨b, hb, eb⟩ := mem_ix (srt_mem.2 (ix_mem hj))
  have h1 := h.1 a ha
  have h2 : ix (srt zs) 0 ≤ ix (srt zs) b := by
    rcases Nat.eq_zero_or_pos b with rfl | hp
    · exact Int.le_refl _
    · exact srt_up zs 0 b hp hb
  omega
theorem IsMax.eq {zs : List Int} {x : Int} (h : IsMax zs zs.length x) : x = ix (srt zs) (zs.length - 1) := by
  obtain ⟨j, hj, e⟩ := h.2
  have h0 : zs.length - 1 < (srt zs).length := by rw [srt_len]; omega
  obtain ⟨a, ha, ea⟩ := mem_ix (srt_mem.1 (ix_mem h0))
  obtain ⟨b, hb, eb⟩ := mem_ix (srt_mem.2 (ix_mem hj))
  have h1 := h.1 a ha
  have h2 : ix (srt zs) b ≤ ix (srt zs) (zs.length - 1) := by
    rw [srt_len] at hb
    rcases Nat.lt_or_ge b (zs.length - 1) with hp | hp
    · exact srt_up zs b _ hp h0
    · obtain rfl : b = zs.length - 1 := by omega
      exact Int.le_refl _
  omega
theorem isMin_in {zs : List Int} {m : Nat} {x lo hi : Int} (h : IsMin zs m x) (ha : AllIn zs zs.length lo hi) (hm : m ≤ zs.length) : lo ≤ x ∧ x ≤ hi := by
  obtain ⟨j, hj, e⟩ := h.2
  have := inR_true.1 (ha j (by omega))
  omega
theorem isMax_in {zs : List Int} {m : Nat} {x lo hi : Int} (h : IsMax zs m x) (ha : AllIn zs zs.length lo hi) (hm : m ≤ zs.length) : lo ≤ x ∧ x ≤ hi := by
  obtain ⟨j, hj, e⟩ := h.2
  have := inR_true.1 (ha j (by omega))
  omega
end Go.Proofs.Ytlbgognkaolamaa
