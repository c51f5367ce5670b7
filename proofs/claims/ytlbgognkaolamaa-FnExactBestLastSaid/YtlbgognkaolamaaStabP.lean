/-
  Plain facts on stable sorting of a row of distinct numbers by a cost: insertion, rotation, merging by symmetric comparisons; no condition but places that lie in the row.
-/
import Derived.Test.YtlbgognkaolamaaApp
namespace Go.Proofs.Ytlbgognkaolamaa
open Go.RowKit

/-- Cost first, place second. -/
def keyOf (c : Int → Int) (x : Int) : Int := 64 * c x + x
theorem key_lt {c : Int → Int} {x y : Int} (hx : 0 ≤ x ∧ x < 64) (hy : 0 ≤ y ∧ y < 64) (h : y < x) : c x < c y ↔ keyOf c x < keyOf c y := by unfold keyOf; omega
theorem key_inj {c : Int → Int} {x y : Int} (hx : 0 ≤ x ∧ x < 64) (hy : 0 ≤ y ∧ y < 64) (h : keyOf c x = keyOf c y) : x = y := by unfold keyOf at h; omega

def swapL (zs : List Int) (i j : Nat) : List Int := (zs.set i (ix zs j)).set j (ix zs i)
theorem swapL_len (zs : List Int) (i j : Nat) : (swapL zs i j).length = zs.length := by simp [swapL]
theorem swapL_ix {zs : List Int} {i j k : Nat} (hi : i < zs.length) (hj : j < zs.length) : ix (swapL zs i j) k = if k = j then ix zs i else if k = i then ix zs j else ix zs k := by
  unfold swapL
  rw [ix_set (by simpa using hj)]
  by_cases h : k = j
  · rw [if_pos h, if_pos h]
  · rw [if_neg h, if_neg h, ix_set hi]
theorem swapL_perm {zs : List Int} {i j : Nat} (hi : i < zs.length) (hj : j < zs.length) : (swapL zs i j).Perm zs := by
  unfold swapL
  rw [← ix_eq hi, ← ix_eq hj]
  exact List.set_set_perm hi hj

def SortedOn (K : Int → Int) (zs : List Int) (a b : Nat) : Prop := ∀ i j, a ≤ i → i < j → j < b → K (ix zs i) < K (ix zs j)
/-- zs' is zs but for places from a to b, which hold what they held in some order. -/
def Wn (zs zs' : List Int) (a b : Nat) : Prop := zs'.Perm zs ∧ (∀ k, k < a ∨ b ≤ k → ix zs' k = ix zs k) ∧ (∀ k, a ≤ k → k < b → ∃ j, a ≤ j ∧ j < b ∧ ix zs' k = ix zs j)
theorem Wn.refl (zs : List Int) (a b : Nat) : Wn zs zs a b := ⟨List.Perm.refl _, fun _ _ => rfl, fun k h1 h2 => ⟨k, h1, h2, rfl⟩⟩
theorem Wn.len {zs zs' : List Int} {a b : Nat} (h : Wn zs zs' a b) : zs'.length = zs.length := h.1.length_eq
theorem Wn.wide {zs zs' : List Int} {a b a' b' : Nat} (h : Wn zs zs' a b) (ha : a' ≤ a) (hb : b ≤ b') : Wn zs zs' a' b' := by
  refine ⟨h.1, fun k hk => h.2.1 k (by omega), fun k h1 h2 => ?_⟩
  by_cases hk : a ≤ k ∧ k < b
  · obtain ⟨j, j1, j2, j3⟩ := h.2.2 k hk.1 hk.2
    exact ⟨j, by omega, by omega, j3⟩
  · exact ⟨k, h1, h2, h.2.1 k (by omega)⟩
theorem Wn.trans {zs z1 z2 : List Int} {a b : Nat} (h : Wn zs z1 a b) (k : Wn z1 z2 a b) : Wn zs z2 a b := by
  refine ⟨k.1.trans h.1, fun q hq => (k.2.1 q hq).trans (h.2.1 q hq), fun q h1 h2 => ?_⟩
  obtain ⟨j, j1, j2, j3⟩ := k.2.2 q h1 h2
  obtain ⟨p, p1, p2, p3⟩ := h.2.2 j j1 j2
  exact ⟨p, p1, p2, j3.trans p3⟩
theorem Wn.swap {zs : List Int} {a b i j : Nat} (hi : i < zs.length) (hj : j < zs.length) (h1 : a ≤ i) (h2 : i < b) (h3 : a ≤ j) (h4 : j < b) : Wn zs (swapL zs i j) a b := by
  refine ⟨swapL_perm hi hj, fun k hk => ?_, fun k k1 k2 => ?_⟩
  · rw [swapL_ix hi hj, if_neg (by omega), if_neg (by omega)]
  · by_cases e : k = j
    · exact ⟨i, h1, h2, by rw [swapL_ix hi hj, if_pos e]⟩
    · by_cases e' : k = i
      · exact ⟨j, h3, h4, by rw [swapL_ix hi hj, if_neg e, if_pos e']⟩
      · exact ⟨k, k1, k2, by rw [swapL_ix hi hj, if_neg e, if_neg e']⟩
/-- All that is in the row lies from 0 to 63. -/
def Rng (zs : List Int) : Prop := ∀ k, k < zs.length → 0 ≤ ix zs k ∧ ix zs k < 64
theorem Rng.perm {zs zs' : List Int} (h : Rng zs) (hp : zs'.Perm zs) : Rng zs' := fun k hk => by
  have hm : ix zs' k ∈ zs := hp.mem_iff.1 (by rw [← ix_eq hk]; exact List.getElem_mem hk)
  obtain ⟨j, hj, e⟩ := List.getElem_of_mem hm
  rw [ix_eq hj] at e
  rw [← e]
  exact h j hj

/-! ### Insertion -/
def Inc (zs : List Int) (a b : Nat) : Prop := ∀ i j, a ≤ i → i < j → j < b → ix zs i < ix zs j
/-- The first i places of the block are sorted. -/
def InsA (c : Int → Int) (zs zs' : List Int) (a i : Nat) : Prop := Wn zs zs' a i ∧ SortedOn (keyOf c) zs' a i
/-- What is inserted lies at j. -/
def InsB (c : Int → Int) (zs zs' : List Int) (a i j : Nat) : Prop :=
  Wn zs zs' a (i + 1) ∧ ix zs' j = ix zs i ∧ (∀ q, a ≤ q → q ≤ i → q ≠ j → ix zs' q < ix zs i) ∧ (∀ p q, a ≤ p → p < q → q ≤ i → p ≠ j → q ≠ j → keyOf c (ix zs' p) < keyOf c (ix zs' q)) ∧ (∀ q, j < q → q ≤ i → keyOf c (ix zs' j) < keyOf c (ix zs' q))
theorem InsA.zero (c : Int → Int) (zs : List Int) (a : Nat) : InsA c zs zs a (a + 1) := ⟨Wn.refl _ _ _, fun i j h1 h2 h3 => by omega⟩
theorem InsA.none (c : Int → Int) (zs : List Int) (a b : Nat) (h : b ≤ a + 1) : InsA c zs zs a b := ⟨Wn.refl _ _ _, fun i j h1 h2 h3 => by omega⟩
theorem InsA.start {c : Int → Int} {zs zs' : List Int} {a i b : Nat} (h : InsA c zs zs' a i) (hi : Inc zs a b) (hib : i < b) : InsB c zs zs' a i i := by
  refine ⟨h.1.wide (Nat.le_refl _) (by omega), h.1.2.1 i (by omega), fun q q1 q2 q3 => ?_, fun p q p1 p2 p3 p4 p5 => h.2 p q p1 p2 (by omega), fun q q1 q2 => by omega⟩
  obtain ⟨j, j1, j2, j3⟩ := h.1.2.2 q q1 (by omega)
  rw [j3]
  exact hi j i j1 j2 hib
theorem InsB.swap {c : Int → Int} {zs zs' : List Int} {a i j : Nat} (h : InsB c zs zs' a i j) (hr : Rng zs) (hj : a < j) (hji : j ≤ i) (hi : i < zs.length) (ht : c (ix zs' j) < c (ix zs' (j - 1))) : InsB c zs (swapL zs' j (j - 1)) a i (j - 1) := by
  obtain ⟨h1, h2, h3, h4, h5⟩ := h
  have hl := h1.len
  have hr' := hr.perm h1.1
  have hjl : j < zs'.length := by omega
  have hj1 : j - 1 < zs'.length := by omega
  have hlt : ix zs' (j - 1) < ix zs' j := by rw [h2]; exact h3 (j - 1) (by omega) (by omega) (by omega)
  have hk := (key_lt (c := c) (hr' j hjl) (hr' (j - 1) hj1) hlt).1 ht
  have sx := fun k => swapL_ix (zs := zs') (k := k) hjl hj1
  refine ⟨h1.trans (Wn.swap hjl hj1 (by omega) (by omega) (by omega) (by omega)), ?_, fun q q1 q2 q3 => ?_, fun p q p1 p2 p3 p4 p5 => ?_, fun q q1 q2 => ?_⟩
  · rw [sx, if_pos rfl]; exact h2
  · rw [sx, if_neg q3]
    by_cases e : q = j
    · rw [if_pos e]; exact h3 (j - 1) (by omega) (by omega) (by omega)
    · rw [if_neg e]; exact h3 q q1 q2 e
  · rw [sx p, sx q, if_neg p4, if_neg p5]
    by_cases e : p = j
    · rw [if_pos e, if_neg (by omega)]; exact h4 (j - 1) q (by omega) (by omega) p3 (by omega) (by omega)
    · rw [if_neg e]
      by_cases e' : q = j
      · rw [if_pos e']; exact h4 p (j - 1) p1 (by omega) (by omega) e (by omega)
      · rw [if_neg e']; exact h4 p q p1 p2 p3 e e'
  · rw [sx, if_pos rfl, sx q, if_neg (by omega)]
    by_cases e : q = j
    · rw [if_pos e]; exact hk
    · rw [if_neg e]; exact h5 q (by omega) q2
theorem InsB.done {c : Int → Int} {zs zs' : List Int} {a i j : Nat} (h : InsB c zs zs' a i j) (hr : Rng zs) (hj : a ≤ j) (hji : j ≤ i) (hi : i < zs.length) (ht : j = a ∨ ¬ c (ix zs' j) < c (ix zs' (j - 1))) : InsA c zs zs' a (i + 1) := by
  obtain ⟨h1, h2, h3, h4, h5⟩ := h
  have hl := h1.len
  have hr' := hr.perm h1.1
  refine ⟨h1, fun p q p1 p2 p3 => ?_⟩
  by_cases e : q = j
  · subst e
    have hlt : ix zs' (q - 1) < ix zs' q := by rw [h2]; exact h3 (q - 1) (by omega) (by omega) (by omega)
    have hk : keyOf c (ix zs' (q - 1)) < keyOf c (ix zs' q) := by
      have k1 : ¬ keyOf c (ix zs' q) < keyOf c (ix zs' (q - 1)) := fun hh => by
        have hh2 := (key_lt (c := c) (hr' q (by omega)) (hr' (q - 1) (by omega)) hlt).2 hh
        rcases ht with ht | ht
        · omega
        · exact ht hh2
      have k2 : keyOf c (ix zs' q) ≠ keyOf c (ix zs' (q - 1)) := fun e => by have := key_inj (hr' q (by omega)) (hr' (q - 1) (by omega)) e; omega
      omega
    by_cases e2 : p = q - 1
    · subst e2; exact hk
    · exact Int.lt_trans (h4 p (q - 1) p1 (by omega) (by omega) (by omega) (by omega)) hk
  · by_cases e2 : p = j
    · subst e2; exact h5 q p2 (by omega)
    · exact h4 p q p1 p2 (by omega) e2 e

/-! ### Exchange of two ranges, rotation -/
def swp (f : Nat → Int) (lo hi k q : Nat) : Int := if lo ≤ q ∧ q < lo + k then f (q - lo + hi) else if hi ≤ q ∧ q < hi + k then f (q - hi + lo) else f q
def Swapped (zs zs' : List Int) (lo hi k : Nat) : Prop := zs'.Perm zs ∧ ∀ q, ix zs' q = swp (ix zs) lo hi k q
theorem Swapped.zero (zs : List Int) (lo hi : Nat) : Swapped zs zs lo hi 0 := ⟨List.Perm.refl _, fun q => by unfold swp; rw [if_neg (by omega), if_neg (by omega)]⟩
theorem Swapped.step {zs zs' : List Int} {lo hi k : Nat} (h : Swapped zs zs' lo hi k) (h1 : lo + k < hi) (h2 : hi + k < zs.length) : Swapped zs (swapL zs' (lo + k) (hi + k)) lo hi (k + 1) := by
  have hl : zs'.length = zs.length := h.1.length_eq
  refine ⟨(swapL_perm (by omega) (by omega)).trans h.1, fun q => ?_⟩
  rw [swapL_ix (by omega) (by omega), h.2, h.2, h.2]
  unfold swp
  by_cases e : q = hi + k
  · subst e
    rw [if_pos rfl, if_neg (by omega), if_neg (by omega), if_neg (by omega), if_pos (by omega)]
    congr 1; omega
  · rw [if_neg e]
    by_cases e2 : q = lo + k
    · subst e2
      rw [if_pos rfl, if_neg (by omega), if_neg (by omega), if_pos (by omega)]
      congr 1; omega
    · rw [if_neg e2]
      by_cases c1 : lo ≤ q ∧ q < lo + k
      · rw [if_pos c1, if_pos (by omega)]
      · rw [if_neg c1, if_neg (show ¬ (lo ≤ q ∧ q < lo + (k + 1)) by omega)]
        by_cases c2 : hi ≤ q ∧ q < hi + k
        · rw [if_pos c2, if_pos (by omega)]
        · rw [if_neg c2, if_neg (by omega)]
def rot (f : Nat → Int) (a m b q : Nat) : Int := if a ≤ q ∧ q < b then (if q < a + (b - m) then f (q + (m - a)) else f (q - (b - m))) else f q
def Rotated (zs zs' : List Int) (a m b : Nat) : Prop := zs'.Perm zs ∧ ∀ q, ix zs' q = rot (ix zs) a m b q
/-- What is left to rotate: i places ahead of m, j behind. -/
def RotI (zs zs' : List Int) (a m b i j : Nat) : Prop := zs'.Perm zs ∧ ∀ q, rot (ix zs') (m - i) m (m + j) q = rot (ix zs) a m b q
theorem RotI.start (zs : List Int) {a m b : Nat} (h1 : a ≤ m) (h2 : m ≤ b) : RotI zs zs a m b (m - a) (b - m) := ⟨List.Perm.refl _, fun q => by rw [show m - (m - a) = a by omega, show m + (b - m) = b by omega]⟩
theorem rot_congr {f g : Nat → Int} (h : ∀ q, f q = g q) (a m b q : Nat) : rot f a m b q = rot g a m b q := by
  rw [show f = g from funext h]
theorem RotI.left {zs zs' zs2 : List Int} {a m b i j : Nat} (h : RotI zs zs' a m b i j) (hij : j < i) (hi : i ≤ m) (hs : Swapped zs' zs2 (m - i) m j) : RotI zs zs2 a m b (i - j) j := by
  refine ⟨hs.1.trans h.1, fun q => ?_⟩
  rw [← h.2 q, rot_congr hs.2]
  unfold rot swp
  repeat' split
  all_goals first | omega | (congr 1; omega) | rfl
theorem RotI.right {zs zs' zs2 : List Int} {a m b i j : Nat} (h : RotI zs zs' a m b i j) (hij : i < j) (hi : i ≤ m) (hs : Swapped zs' zs2 (m - i) (m + j - i) i) : RotI zs zs2 a m b i (j - i) := by
  refine ⟨hs.1.trans h.1, fun q => ?_⟩
  rw [← h.2 q, rot_congr hs.2]
  unfold rot swp
  repeat' split
  all_goals first | omega | (congr 1; omega) | rfl
theorem RotI.done {zs zs' zs2 : List Int} {a m b i : Nat} (h : RotI zs zs' a m b i i) (hi : i ≤ m) (hs : Swapped zs' zs2 (m - i) m i) : Rotated zs zs2 a m b := by
  refine ⟨hs.1.trans h.1, fun q => ?_⟩
  rw [← h.2 q, hs.2]
  unfold rot swp
  repeat' split
  all_goals first | omega | (congr 1; omega) | rfl
theorem Rotated.refl_left (zs : List Int) {m b : Nat} (h : m ≤ b) : Rotated zs zs m m b := ⟨List.Perm.refl _, fun q => by
  unfold rot
  repeat' split
  all_goals first | omega | (congr 1; omega) | rfl⟩
theorem Rotated.refl_right (zs : List Int) (a m : Nat) : Rotated zs zs a m m := ⟨List.Perm.refl _, fun q => by
  unfold rot
  repeat' split
  all_goals first | omega | (congr 1; omega) | rfl⟩
theorem Rotated.wn {zs zs' : List Int} {a m b : Nat} (h : Rotated zs zs' a m b) (h1 : a ≤ m) (h2 : m ≤ b) : Wn zs zs' a b := by
  refine ⟨h.1, fun k hk => ?_, fun k k1 k2 => ?_⟩
  · rw [h.2]; unfold rot; rw [if_neg (by omega)]
  · rw [h.2]; unfold rot; rw [if_pos ⟨k1, k2⟩]
    by_cases e : k < a + (b - m)
    · rw [if_pos e]; exact ⟨_, by omega, by omega, rfl⟩
    · rw [if_neg e]; exact ⟨_, by omega, by omega, rfl⟩

/-! ### Merging -/
/-- Two sorted parts; what lies in the first came first. -/
def Two (c : Int → Int) (zs : List Int) (a m b : Nat) : Prop := SortedOn (keyOf c) zs a m ∧ SortedOn (keyOf c) zs m b ∧ ∀ i j, a ≤ i → i < m → m ≤ j → j < b → ix zs i < ix zs j
theorem sorted_none (K : Int → Int) (zs : List Int) {a b : Nat} (h : b ≤ a + 1) : SortedOn K zs a b := fun i j h1 h2 h3 => by omega
theorem SortedOn.sub {K : Int → Int} {zs : List Int} {a b a' b' : Nat} (h : SortedOn K zs a b) (h1 : a ≤ a') (h2 : b' ≤ b) : SortedOn K zs a' b' := fun i j i1 i2 i3 => h i j (by omega) i2 (by omega)
theorem SortedOn.same {K : Int → Int} {zs zs' : List Int} {a b : Nat} (h : SortedOn K zs a b) (e : ∀ k, a ≤ k → k < b → ix zs' k = ix zs k) : SortedOn K zs' a b := fun i j i1 i2 i3 => by
  rw [e i i1 (by omega), e j (by omega) i3]; exact h i j i1 i2 i3
/-- Two sorted parts, all of the first below all of the second. -/
theorem sorted_join {K : Int → Int} {zs : List Int} {a m b : Nat} (h1 : SortedOn K zs a m) (h2 : SortedOn K zs m b) (h : ∀ i j, a ≤ i → i < m → m ≤ j → j < b → K (ix zs i) < K (ix zs j)) : SortedOn K zs a b := fun i j i1 i2 i3 => by
  by_cases e : j < m
  · exact h1 i j i1 i2 e
  · by_cases e2 : i < m
    · exact h i j i1 e2 (by omega) i3
    · exact h2 i j (by omega) i2 i3
/-- The place of the search: at c the one of the right is below the one of the left. -/
def BelowAt (c : Int → Int) (zs : List Int) (p k : Nat) : Prop := keyOf c (ix zs (p - k)) < keyOf c (ix zs k)
theorem below_iff {c : Int → Int} {zs : List Int} {a m b p k : Nat} (h : Two c zs a m b) (hr : Rng zs) (hb : b ≤ zs.length) (h1 : a ≤ k) (h2 : k < m) (h3 : m ≤ p - k) (h4 : p - k < b) : c (ix zs (p - k)) < c (ix zs k) ↔ BelowAt c zs p k :=
  key_lt (hr _ (by omega)) (hr _ (by omega)) (h.2.2 k (p - k) h1 h2 h3 h4)
/-- What the search holds: ahead of s never, from r on always. -/
def Srch (c : Int → Int) (zs : List Int) (p s0 r0 s r : Nat) : Prop := (∀ k, s0 ≤ k → k < s → ¬ BelowAt c zs p k) ∧ (∀ k, r ≤ k → k < r0 → BelowAt c zs p k)
theorem Srch.zero (c : Int → Int) (zs : List Int) (p s0 r0 : Nat) : Srch c zs p s0 r0 s0 r0 := ⟨fun k h1 h2 => by omega, fun k h1 h2 => by omega⟩
theorem Srch.up {c : Int → Int} {zs : List Int} {a m b p s0 r0 s r k : Nat} (h : Srch c zs p s0 r0 s r) (ht : Two c zs a m b) (h0 : a ≤ s0) (hk : k < m) (hk2 : m ≤ p - k) (hp : p - s0 < b) (hn : ¬ BelowAt c zs p k) : Srch c zs p s0 r0 (k + 1) r := by
  refine ⟨fun q q1 q2 hq => hn ?_, h.2⟩
  by_cases e : q = k
  · subst e; exact hq
  · unfold BelowAt at hq ⊢
    have l1 := ht.1 q k (by omega) (by omega) hk
    have l2 := ht.2.1 (p - k) (p - q) hk2 (by omega) (by omega)
    omega
theorem Srch.down {c : Int → Int} {zs : List Int} {a m b p s0 r0 s r k : Nat} (h : Srch c zs p s0 r0 s r) (ht : Two c zs a m b) (h0 : a ≤ k) (hr : r0 ≤ m) (hk2 : m + r0 ≤ p + 1) (hp : p - k < b) (hn : BelowAt c zs p k) : Srch c zs p s0 r0 s k := by
  refine ⟨h.1, fun q q1 q2 => ?_⟩
  by_cases e : q = k
  · subst e; exact hn
  · unfold BelowAt at hn ⊢
    have l1 := ht.1 k q h0 (by omega) (by omega)
    have l2 := ht.2.1 (p - q) (p - k) (by omega) (by omega) hp
    omega
/-- Behind the rotation: all of the first half below all of the second; each half is two sorted parts. -/
theorem merge_halves {c : Int → Int} {zs zs' : List Int} {a m b mid s0 r0 s : Nat} (ht : Two c zs a m b) (hr : Rng zs) (hb : b ≤ zs.length) (ham : a < m) (hmb : m < b) (hmid : mid = (a + b) / 2)
    (hs0 : s0 = if mid < m then mid + m - b else a) (hr0 : r0 = if mid < m then mid else m) (h1 : s0 ≤ s) (h2 : s ≤ r0) (hS : Srch c zs (mid + m - 1) s0 r0 s s) (hR : Rotated zs zs' s m (mid + m - s)) :
    (a ≤ s ∧ s ≤ m ∧ s ≤ mid ∧ m ≤ mid + m - s ∧ mid ≤ mid + m - s ∧ mid + m - s ≤ b) ∧ Two c zs' a s mid ∧ Two c zs' mid (mid + m - s) b ∧ (∀ i j, a ≤ i → i < mid → mid ≤ j → j < b → keyOf c (ix zs' i) < keyOf c (ix zs' j)) := by
  have hm1 : a ≤ mid := by omega
  have hm2 : mid < b := by omega
  have b1 : a ≤ s := by split at hs0 <;> omega
  have b2 : s ≤ m := by split at hr0 <;> omega
  have b3 : s ≤ mid := by split at hr0 <;> omega
  have b4 : mid + m - s ≤ b := by split at hs0 <;> omega
  have e1 : ∀ k, k < s → ix zs' k = ix zs k := fun k hk => by rw [hR.2]; unfold rot; rw [if_neg (by omega)]
  have e2 : ∀ k, s ≤ k → k < mid → ix zs' k = ix zs (k + (m - s)) := fun k k1 k2 => by rw [hR.2]; unfold rot; rw [if_pos (by omega), if_pos (by omega)]
  have e3 : ∀ k, mid ≤ k → k < mid + m - s → ix zs' k = ix zs (k - (mid - s)) := fun k k1 k2 => by
    rw [hR.2]; unfold rot; rw [if_pos (by omega), if_neg (by omega)]; congr 1; omega
  have e4 : ∀ k, mid + m - s ≤ k → ix zs' k = ix zs k := fun k hk => by rw [hR.2]; unfold rot; rw [if_neg (by omega)]
  -- the two that stand at the seam
  have A : s < m → m < mid + m - s → keyOf c (ix zs (mid + m - 1 - s)) < keyOf c (ix zs s) := fun q1 q2 => hS.2 s (Nat.le_refl _) (by split at hr0 <;> omega)
  have B : a < s → mid + m - s < b → keyOf c (ix zs (s - 1)) < keyOf c (ix zs (mid + m - s)) := fun q1 q2 => by
    have q3 := hS.1 (s - 1) (by split at hs0 <;> omega) (by omega)
    unfold BelowAt at q3
    rw [show mid + m - 1 - (s - 1) = mid + m - s by omega] at q3
    have q4 := ht.2.2 (s - 1) (mid + m - s) (by omega) (by omega) (by omega) (by omega)
    have q5 : keyOf c (ix zs (mid + m - s)) ≠ keyOf c (ix zs (s - 1)) := fun e => by
      have := key_inj (hr _ (by omega)) (hr _ (by omega)) e
      omega
    omega
  have sle : ∀ {x y : Nat}, a ≤ x → x ≤ y → y < m → keyOf c (ix zs x) ≤ keyOf c (ix zs y) := fun {x y} x1 x2 x3 => by
    by_cases e : x = y
    · subst e; exact Int.le_refl _
    · exact Int.le_of_lt (ht.1 x y x1 (by omega) x3)
  have sle2 : ∀ {x y : Nat}, m ≤ x → x ≤ y → y < b → keyOf c (ix zs x) ≤ keyOf c (ix zs y) := fun {x y} x1 x2 x3 => by
    by_cases e : x = y
    · subst e; exact Int.le_refl _
    · exact Int.le_of_lt (ht.2.1 x y x1 (by omega) x3)
  refine ⟨⟨b1, b2, b3, by omega, by omega, b4⟩, ⟨?_, ?_, ?_⟩, ⟨?_, ?_, ?_⟩, ?_⟩
  · exact (ht.1.sub (Nat.le_refl _) b2).same fun k k1 k2 => e1 k k2
  · intro i j i1 i2 i3
    rw [e2 i i1 (by omega), e2 j (by omega) i3]
    exact ht.2.1 _ _ (by omega) (by omega) (by omega)
  · intro i j i1 i2 i3 i4
    rw [e1 i i2, e2 j i3 i4]
    exact ht.2.2 _ _ i1 (by omega) (by omega) (by omega)
  · intro i j i1 i2 i3
    rw [e3 i i1 (by omega), e3 j (by omega) i3]
    exact ht.1 _ _ (by omega) (by omega) (by omega)
  · exact (ht.2.1.sub (by omega) (Nat.le_refl _)).same fun k k1 k2 => e4 k k1
  · intro i j i1 i2 i3 i4
    rw [e3 i i1 i2, e4 j i3]
    exact ht.2.2 _ _ (by omega) (by omega) (by omega) i4
  · intro i j i1 i2 i3 i4
    by_cases p1 : i < s
    · rw [e1 i p1]
      by_cases p2 : j < mid + m - s
      · rw [e3 j i3 p2]; exact ht.1 _ _ i1 (by omega) (by omega)
      · rw [e4 j (by omega)]
        have l1 := sle (x := i) (y := s - 1) i1 (by omega) (by omega)
        have l2 := B (by omega) (by omega)
        have l3 := sle2 (x := mid + m - s) (y := j) (by omega) (by omega) i4
        omega
    · rw [e2 i (by omega) i2]
      by_cases p2 : j < mid + m - s
      · rw [e3 j i3 p2]
        have l1 := sle2 (x := i + (m - s)) (y := mid + m - 1 - s) (by omega) (by omega) (by omega)
        have l2 := A (by omega) (by omega)
        have l3 := sle (x := s) (y := j - (mid - s)) (by omega) (by omega) (by omega)
        omega
      · rw [e4 j (by omega)]; exact ht.2.1 _ _ (by omega) (by omega) i4
/-- A part that is put in order, the other as it was: what is left to put in order. -/
theorem Two.same {c : Int → Int} {zs zs' : List Int} {a m b : Nat} (h : Two c zs a m b) (h1 : a ≤ m) (h2 : m ≤ b) (e : ∀ k, a ≤ k → k < b → ix zs' k = ix zs k) : Two c zs' a m b :=
  ⟨h.1.same fun k k1 k2 => e k k1 (by omega), h.2.1.same fun k k1 k2 => e k (by omega) k2, fun i j i1 i2 i3 i4 => by
    rw [e i i1 (by omega), e j (by omega) i4]; exact h.2.2 i j i1 i2 i3 i4⟩
theorem two_one {c : Int → Int} {zs : List Int} {a m b : Nat} (h : Two c zs a m b) (e : m = a ∨ m = b) : SortedOn (keyOf c) zs a b := by
  rcases e with e | e
  · subst e; exact h.2.1
  · subst e; exact h.1
theorem merge_done {K : Int → Int} {z0 z1 z2 : List Int} {a mid b : Nat} (h1 : a ≤ mid) (h2 : mid ≤ b) (w1 : Wn z0 z1 a mid) (s1 : SortedOn K z1 a mid) (w2 : Wn z1 z2 mid b) (s2 : SortedOn K z2 mid b)
    (H : ∀ i j, a ≤ i → i < mid → mid ≤ j → j < b → K (ix z0 i) < K (ix z0 j)) : SortedOn K z2 a b ∧ Wn z0 z2 a b := by
  refine ⟨sorted_join (m := mid) (s1.same fun k k1 k2 => w2.2.1 k (by omega)) s2 fun i j i1 i2 i3 i4 => ?_, (w1.wide (Nat.le_refl _) h2).trans (w2.wide h1 (Nat.le_refl _))⟩
  rw [w2.2.1 i (by omega)]
  obtain ⟨p, p1, p2, p3⟩ := w1.2.2 i i1 i2
  obtain ⟨q, q1, q2, q3⟩ := w2.2.2 j i3 i4
  rw [p3, q3, w1.2.1 q (by omega)]
  exact H p q p1 p2 q1 q2

/-! ### One element put into its place -/
/-- The search of the first of the right that is not below the one at a. -/
def SrchL (c : Int → Int) (zs : List Int) (a m b i j : Nat) : Prop := (∀ k, m ≤ k → k < i → keyOf c (ix zs k) < keyOf c (ix zs a)) ∧ (∀ k, j ≤ k → k < b → keyOf c (ix zs a) < keyOf c (ix zs k))
def SrchR (c : Int → Int) (zs : List Int) (a m i j : Nat) : Prop := (∀ k, a ≤ k → k < i → keyOf c (ix zs k) < keyOf c (ix zs m)) ∧ (∀ k, j ≤ k → k < m → keyOf c (ix zs m) < keyOf c (ix zs k))
theorem SrchL.zero (c : Int → Int) (zs : List Int) (a m b : Nat) : SrchL c zs a m b m b := ⟨fun k h1 h2 => by omega, fun k h1 h2 => by omega⟩
theorem SrchR.zero (c : Int → Int) (zs : List Int) (a m : Nat) : SrchR c zs a m a m := ⟨fun k h1 h2 => by omega, fun k h1 h2 => by omega⟩
theorem right_iff {c : Int → Int} {zs : List Int} {a m b x y : Nat} (h : Two c zs a m b) (hr : Rng zs) (hb : b ≤ zs.length) (h1 : a ≤ x) (h2 : x < m) (h3 : m ≤ y) (h4 : y < b) :
    (c (ix zs y) < c (ix zs x) ↔ keyOf c (ix zs y) < keyOf c (ix zs x)) ∧ keyOf c (ix zs y) ≠ keyOf c (ix zs x) := by
  have hlt := h.2.2 x y h1 h2 h3 h4
  exact ⟨key_lt (hr _ (by omega)) (hr _ (by omega)) hlt, fun e => by have := key_inj (hr _ (by omega)) (hr _ (by omega)) e; omega⟩
theorem SrchL.up {c : Int → Int} {zs : List Int} {a m b i j k : Nat} (h : SrchL c zs a m b i j) (ht : Two c zs a m b) (hr : Rng zs) (hb : b ≤ zs.length) (ham : a < m) (hk1 : m ≤ k) (hk2 : k < b) (hc : c (ix zs k) < c (ix zs a)) : SrchL c zs a m b (k + 1) j := by
  have hk := (right_iff ht hr hb (Nat.le_refl a) ham hk1 hk2).1.1 hc
  refine ⟨fun q q1 q2 => ?_, h.2⟩
  by_cases e : q = k
  · subst e; exact hk
  · exact Int.lt_trans (ht.2.1 q k q1 (by omega) hk2) hk
theorem SrchL.down {c : Int → Int} {zs : List Int} {a m b i j k : Nat} (h : SrchL c zs a m b i j) (ht : Two c zs a m b) (hr : Rng zs) (hb : b ≤ zs.length) (ham : a < m) (hk1 : m ≤ k) (hk2 : k < b) (hc : ¬ c (ix zs k) < c (ix zs a)) : SrchL c zs a m b i k := by
  obtain ⟨h1, h2⟩ := right_iff ht hr hb (Nat.le_refl a) ham hk1 hk2
  rw [h1] at hc
  refine ⟨h.1, fun q q1 q2 => ?_⟩
  by_cases e : q = k
  · subst e; omega
  · have := ht.2.1 k q hk1 (by omega) q2
    omega
theorem SrchR.up {c : Int → Int} {zs : List Int} {a m b i j k : Nat} (h : SrchR c zs a m i j) (ht : Two c zs a m b) (hr : Rng zs) (hb : b ≤ zs.length) (hmb : m < b) (hk1 : a ≤ k) (hk2 : k < m) (hc : ¬ c (ix zs m) < c (ix zs k)) : SrchR c zs a m (k + 1) j := by
  obtain ⟨h1, h2⟩ := right_iff ht hr hb hk1 hk2 (Nat.le_refl m) hmb
  rw [h1] at hc
  refine ⟨fun q q1 q2 => ?_, h.2⟩
  by_cases e : q = k
  · subst e; omega
  · have := ht.1 q k q1 (by omega) hk2
    omega
theorem SrchR.down {c : Int → Int} {zs : List Int} {a m b i j k : Nat} (h : SrchR c zs a m i j) (ht : Two c zs a m b) (hr : Rng zs) (hb : b ≤ zs.length) (hmb : m < b) (hk1 : a ≤ k) (hk2 : k < m) (hc : c (ix zs m) < c (ix zs k)) : SrchR c zs a m i k := by
  have hk := (right_iff ht hr hb hk1 hk2 (Nat.le_refl m) hmb).1.1 hc
  refine ⟨h.1, fun q q1 q2 => ?_⟩
  by_cases e : q = k
  · subst e; exact hk
  · exact Int.lt_trans hk (ht.1 k q hk1 (by omega) q2)
theorem Rotated.up {zs zs' : List Int} {a k : Nat} (h : Rotated zs zs' a (a + 1) (k + 1)) (hk : a ≤ k) (hl : k + 1 < zs.length) : Rotated zs (swapL zs' k (k + 1)) a (a + 1) (k + 2) := by
  have hz : zs'.length = zs.length := h.1.length_eq
  refine ⟨(swapL_perm (by omega) (by omega)).trans h.1, fun q => ?_⟩
  rw [swapL_ix (by omega) (by omega), h.2, h.2, h.2]
  unfold rot
  repeat' split
  all_goals first | omega | (congr 1; omega) | rfl
theorem Rotated.down {zs zs' : List Int} {k m : Nat} (h : Rotated zs zs' k m (m + 1)) (hk : 0 < k) (hkm : k ≤ m) (hl : m < zs.length) : Rotated zs (swapL zs' k (k - 1)) (k - 1) m (m + 1) := by
  have hz : zs'.length = zs.length := h.1.length_eq
  refine ⟨(swapL_perm (by omega) (by omega)).trans h.1, fun q => ?_⟩
  rw [swapL_ix (by omega) (by omega), h.2, h.2, h.2]
  unfold rot
  repeat' split
  all_goals first | omega | (congr 1; omega) | rfl
theorem insL_done {c : Int → Int} {zs zs' : List Int} {a m b i : Nat} (ht : Two c zs a m b) (ham : m = a + 1) (hi : m ≤ i) (hib : i ≤ b) (hS : SrchL c zs a m b i i) (hR : Rotated zs zs' a m i) : SortedOn (keyOf c) zs' a b ∧ Wn zs zs' a b := by
  subst ham
  refine ⟨fun p q p1 p2 p3 => ?_, (hR.wn (by omega) hi).wide (Nat.le_refl _) hib⟩
  rw [hR.2, hR.2]
  unfold rot
  by_cases c1 : q < i
  · rw [if_pos (by omega), if_pos (by omega), if_pos (by omega)]
    by_cases c2 : q < i - 1
    · rw [if_pos (by omega)]; exact ht.2.1 _ _ (by omega) (by omega) (by omega)
    · rw [if_neg (by omega), show q - (i - (a + 1)) = a by omega]; exact hS.1 _ (by omega) (by omega)
  · rw [if_neg (show ¬ (a ≤ q ∧ q < i) by omega)]
    by_cases c2 : p < i
    · rw [if_pos (by omega)]
      by_cases c3 : p < i - 1
      · rw [if_pos (by omega)]; exact ht.2.1 _ _ (by omega) (by omega) p3
      · rw [if_neg (by omega), show p - (i - (a + 1)) = a by omega]; exact hS.2 _ (by omega) p3
    · rw [if_neg (by omega)]; exact ht.2.1 _ _ (by omega) p2 p3
theorem insR_done {c : Int → Int} {zs zs' : List Int} {a m b i : Nat} (ht : Two c zs a m b) (hmb : b = m + 1) (hi : a ≤ i) (him : i ≤ m) (hS : SrchR c zs a m i i) (hR : Rotated zs zs' i m b) : SortedOn (keyOf c) zs' a b ∧ Wn zs zs' a b := by
  subst hmb
  refine ⟨fun p q p1 p2 p3 => ?_, (hR.wn him (by omega)).wide hi (Nat.le_refl _)⟩
  rw [hR.2, hR.2]
  unfold rot
  by_cases c1 : p < i
  · rw [if_neg (show ¬ (i ≤ p ∧ p < m + 1) by omega)]
    by_cases c2 : q < i
    · rw [if_neg (by omega)]; exact ht.1 _ _ p1 p2 (by omega)
    · rw [if_pos (by omega)]
      by_cases c3 : q = i
      · rw [if_pos (by omega), show q + (m - i) = m by omega]; exact hS.1 p p1 c1
      · rw [if_neg (by omega)]; exact ht.1 _ _ p1 (by omega) (by omega)
  · rw [if_pos (by omega), if_pos (show i ≤ q ∧ q < m + 1 by omega), if_neg (show ¬ q < i + (m + 1 - m) by omega)]
    by_cases c3 : p = i
    · rw [if_pos (by omega), show p + (m - i) = m by omega]; exact hS.2 _ (by omega) (by omega)
    · rw [if_neg (by omega)]; exact ht.1 _ _ (by omega) (by omega) (by omega)

/-! ### The row in order -/
/-- The row in order: by cost, of equals the first first. -/
def rankBy (c : Int → Int) (zs : List Int) : List Int := zs.mergeSort fun x y => decide (keyOf c x ≤ keyOf c y)
theorem SortedOn.pairwise {K : Int → Int} {zs : List Int} (h : SortedOn K zs 0 zs.length) : zs.Pairwise fun x y => K x ≤ K y := by
  rw [List.pairwise_iff_getElem]
  intro i j hi hj hij
  rw [ix_eq hi, ix_eq hj]
  exact Int.le_of_lt (h i j (Nat.zero_le _) hij hj)
theorem rank_of {c : Int → Int} {zs zs' : List Int} (hr : Rng zs) (hp : zs'.Perm zs) (h : SortedOn (keyOf c) zs' 0 zs'.length) : zs' = rankBy c zs := by
  have hm : ∀ x, x ∈ zs → 0 ≤ x ∧ x < 64 := fun x hx => by
    obtain ⟨j, hj, e⟩ := List.getElem_of_mem hx
    rw [ix_eq hj] at e
    rw [← e]; exact hr j hj
  have hs : (rankBy c zs).Pairwise fun x y => decide (keyOf c x ≤ keyOf c y) = true := List.pairwise_mergeSort (fun a b d h1 h2 => by simp at h1 h2 ⊢; omega) (fun a b => by simp; omega) zs
  have hp2 : (rankBy c zs).Perm zs := List.mergeSort_perm _ _
  refine List.Perm.eq_of_pairwise (le := fun x y => keyOf c x ≤ keyOf c y) (fun a b ha hb h1 h2 => key_inj (c := c) (hm a (hp.mem_iff.1 ha)) (hm b (hp2.mem_iff.1 hb)) (by omega)) h.pairwise ?_ (hp.trans hp2.symm)
  exact hs.imp fun h => by simpa using h
end Go.Proofs.Ytlbgognkaolamaa
