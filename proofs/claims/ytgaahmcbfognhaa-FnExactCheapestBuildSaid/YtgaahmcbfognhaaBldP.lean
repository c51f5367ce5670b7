/-
  The cheapest builds of each sum: the table of costs, the greatest layer that fits, the builds. Plain laws.
-/
import Derived.Test.YtgaahmcbfognhaaCntP
namespace Go.Proofs.Ytgaahmcbfognhaa

/-- Layer i may be added to reach n. -/
def cOk (t : Nat → Int) (zs : List Int) (n i : Nat) : Prop := ix zs i ≤ n ∧ 0 ≤ t (n - (ix zs i).toNat)
def cst (t : Nat → Int) (zs ps : List Int) (n i : Nat) : Int := t (n - (ix zs i).toNat) + 2000 * ix ps i + 1
/-- The least cost of n over the first j layers; -1 where there is none. -/
def asc (t : Nat → Int) (zs ps : List Int) (n : Nat) : Nat → Int
  | 0 => -1
  | j + 1 => if (ix zs j ≤ n ∧ 0 ≤ t (n - (ix zs j).toNat)) ∧ (asc t zs ps n j < 0 ∨ cst t zs ps n j < asc t zs ps n j) then cst t zs ps n j else asc t zs ps n j
theorem asc_take {t : Nat → Int} {zs ps : List Int} {n j : Nat} (h : cOk t zs n j) (h2 : asc t zs ps n j < 0 ∨ cst t zs ps n j < asc t zs ps n j) : asc t zs ps n (j + 1) = cst t zs ps n j := if_pos ⟨h, h2⟩
theorem asc_skip {t : Nat → Int} {zs ps : List Int} {n j : Nat} (h : ¬ cOk t zs n j) : asc t zs ps n (j + 1) = asc t zs ps n j := if_neg fun h2 => h h2.1
theorem asc_keep {t : Nat → Int} {zs ps : List Int} {n j : Nat} (h : ¬ (asc t zs ps n j < 0 ∨ cst t zs ps n j < asc t zs ps n j)) : asc t zs ps n (j + 1) = asc t zs ps n j := if_neg fun h2 => h h2.2
def tabL (zs ps : List Int) : Nat → List Int
  | 0 => [0]
  | m + 1 => tabL zs ps m ++ [asc (ix (tabL zs ps m)) zs ps (m + 1) zs.length]
/-- The least cost of n. -/
def tT (zs ps : List Int) (n : Nat) : Int := ix (tabL zs ps n) n
theorem tabL_len (zs ps : List Int) : ∀ m, (tabL zs ps m).length = m + 1
  | 0 => rfl
  | m + 1 => by rw [tabL, List.length_append, tabL_len zs ps m]; rfl
theorem ix_left {a : List Int} {x : Int} {k : Nat} (h : k < a.length) : ix (a ++ [x]) k = ix a k := by
  unfold ix; rw [List.getD_eq_getElem?_getD, List.getD_eq_getElem?_getD, List.getElem?_append_left h]
theorem ix_last (a : List Int) (x : Int) : ix (a ++ [x]) a.length = x := by
  unfold ix; rw [List.getD_eq_getElem?_getD, List.getElem?_append_right (Nat.le_refl _), Nat.sub_self]; rfl
theorem tabL_at (zs ps : List Int) : ∀ {m n}, n ≤ m → ix (tabL zs ps m) n = tT zs ps n := by
  intro m
  induction m with
  | zero => intro n h; obtain rfl : n = 0 := by omega
            rfl
  | succ m ih =>
    intro n h
    by_cases e : n = m + 1
    · subst e; rfl
    · rw [tabL, ix_left (by rw [tabL_len]; omega)]; exact ih (by omega)
theorem tT_zero (zs ps : List Int) : tT zs ps 0 = 0 := rfl
theorem tT_succ (zs ps : List Int) (m : Nat) : tT zs ps (m + 1) = asc (ix (tabL zs ps m)) zs ps (m + 1) zs.length := by
  unfold tT
  rw [tabL]
  conv => lhs; arg 2; rw [← tabL_len zs ps m]
  exact ix_last _ _
structure BldH (zs ps : List Int) : Prop where
  z : ∀ i, i < zs.length → 1 ≤ ix zs i ∧ ix zs i ≤ 200
  p : ∀ i, i < zs.length → 0 ≤ ix ps i ∧ ix ps i ≤ 1000
  l : 1 ≤ zs.length ∧ zs.length ≤ 8
def BestOf (t : Nat → Int) (zs ps : List Int) (n hi : Nat) (b : Int) : Prop :=
  (b = -1 ∧ ∀ i, i < hi → ¬ cOk t zs n i) ∨ (0 ≤ b ∧ (∃ i, i < hi ∧ cOk t zs n i ∧ cst t zs ps n i = b) ∧ ∀ i, i < hi → cOk t zs n i → b ≤ cst t zs ps n i)
theorem asc_best {t : Nat → Int} {zs ps : List Int} (h : BldH zs ps) (n : Nat) : ∀ j, j ≤ zs.length → BestOf t zs ps n j (asc t zs ps n j)
  | 0, _ => .inl ⟨rfl, fun i hi => by omega⟩
  | j + 1, hj => by
    have ih := asc_best (t := t) h n j (by omega)
    have hp := (h.p j (by omega)).1
    by_cases hok : cOk t zs n j
    · have hc : 0 ≤ cst t zs ps n j := by have := hok.2; unfold cst; omega
      by_cases hb : asc t zs ps n j < 0 ∨ cst t zs ps n j < asc t zs ps n j
      · rw [asc_take hok hb]
        refine .inr ⟨hc, ⟨j, by omega, hok, rfl⟩, fun i hi hik => ?_⟩
        rcases Nat.lt_or_ge i j with hij | hij
        · rcases ih with ⟨_, h2⟩ | ⟨h1, _, h3⟩
          · exact absurd hik (h2 i hij)
          · have := h3 i hij hik; omega
        · obtain rfl : i = j := by omega
          exact Int.le_refl _
      · rw [asc_keep hb]
        rcases ih with ⟨h1, h2⟩ | ⟨h1, ⟨i0, hi0, hk0, hc0⟩, h3⟩
        · exact absurd (.inl (by omega)) hb
        · refine .inr ⟨h1, ⟨i0, by omega, hk0, hc0⟩, fun i hi hik => ?_⟩
          rcases Nat.lt_or_ge i j with hij | hij
          · exact h3 i hij hik
          · obtain rfl : i = j := by omega
            omega
    · rw [asc_skip hok]
      rcases ih with ⟨h1, h2⟩ | ⟨h1, ⟨i0, hi0, hk0, hc0⟩, h3⟩
      · refine .inl ⟨h1, fun i hi hik => ?_⟩
        rcases Nat.lt_or_ge i j with hij | hij
        · exact h2 i hij hik
        · obtain rfl : i = j := by omega
          exact hok hik
      · refine .inr ⟨h1, ⟨i0, by omega, hk0, hc0⟩, fun i hi hik => ?_⟩
        rcases Nat.lt_or_ge i j with hij | hij
        · exact h3 i hij hik
        · obtain rfl : i = j := by omega
          exact absurd hik hok
theorem cOk_tab {zs ps : List Int} (h : BldH zs ps) {m i : Nat} (hi : i < zs.length) (hz : ix zs i ≤ ((m + 1 : Nat) : Int)) : ix (tabL zs ps m) (m + 1 - (ix zs i).toNat) = tT zs ps (m + 1 - (ix zs i).toNat) := by
  have := (h.z i hi).1
  exact tabL_at zs ps (by omega)
theorem cOk_T {zs ps : List Int} (h : BldH zs ps) {m i : Nat} (hi : i < zs.length) : cOk (ix (tabL zs ps m)) zs (m + 1) i ↔ cOk (tT zs ps) zs (m + 1) i := by
  constructor <;> intro hk <;> refine ⟨hk.1, ?_⟩ <;> have h2 := hk.2
  · rwa [cOk_tab h hi hk.1] at h2
  · rwa [cOk_tab h hi hk.1]
theorem cst_T {zs ps : List Int} (h : BldH zs ps) {m i : Nat} (hi : i < zs.length) (hz : ix zs i ≤ ((m + 1 : Nat) : Int)) : cst (ix (tabL zs ps m)) zs ps (m + 1) i = cst (tT zs ps) zs ps (m + 1) i := by
  unfold cst; rw [cOk_tab h hi hz]
theorem tT_best {zs ps : List Int} (h : BldH zs ps) {n : Nat} (hn : 0 < n) : BestOf (tT zs ps) zs ps n zs.length (tT zs ps n) := by
  obtain ⟨m, rfl⟩ : ∃ m, n = m + 1 := ⟨n - 1, by omega⟩
  have hb := asc_best (t := ix (tabL zs ps m)) h (m + 1) zs.length (Nat.le_refl _)
  rw [← tT_succ] at hb
  rcases hb with ⟨h1, h2⟩ | ⟨h1, ⟨i0, hi0, hk0, hc0⟩, h3⟩
  · exact .inl ⟨h1, fun i hi hik => h2 i hi ((cOk_T h hi).2 hik)⟩
  · exact .inr ⟨h1, ⟨i0, hi0, (cOk_T h hi0).1 hk0, by rw [← cst_T h hi0 hk0.1]; exact hc0⟩, fun i hi hik => by rw [← cst_T h hi hik.1]; exact h3 i hi ((cOk_T h hi).2 hik)⟩
theorem BestOf.unique {t : Nat → Int} {zs ps : List Int} {n hi : Nat} {b b' : Int} (h : BestOf t zs ps n hi b) (h' : BestOf t zs ps n hi b') : b = b' := by
  rcases h with ⟨h1, h2⟩ | ⟨h1, ⟨i0, hi0, hk0, hc0⟩, h3⟩ <;> rcases h' with ⟨g1, g2⟩ | ⟨g1, ⟨j0, hj0, hl0, hd0⟩, g3⟩
  · omega
  · exact absurd hl0 (h2 _ hj0)
  · exact absurd hk0 (g2 _ hi0)
  · have := h3 _ hj0 hl0; have := g3 _ hi0 hk0; omega
/-- The greatest k below hi that p holds of. -/
def lastIx (p : Nat → Bool) : Nat → Nat
  | 0 => 0
  | k + 1 => if p k then k else lastIx p k
theorem lastIx_eq {p : Nat → Bool} {i : Nat} (hp : p i = true) : ∀ {hi : Nat}, i < hi → (∀ j, i < j → j < hi → p j = false) → lastIx p hi = i
  | 0, h, _ => by omega
  | hi + 1, h, ha => by
    by_cases e : i = hi
    · subst e; exact if_pos hp
    · rw [lastIx, if_neg (by rw [ha hi (by omega) (by omega)]; decide)]
      exact lastIx_eq hp (by omega) (fun j h1 h2 => ha j h1 (by omega))
theorem lastIx_spec {p : Nat → Bool} : ∀ {hi : Nat}, (∃ i, i < hi ∧ p i = true) → lastIx p hi < hi ∧ p (lastIx p hi) = true ∧ ∀ j, lastIx p hi < j → j < hi → p j = false
  | 0, ⟨i, hi, _⟩ => by omega
  | k + 1, ⟨i, hi, hp⟩ => by
    by_cases e : p k = true
    · rw [lastIx, if_pos e]
      exact ⟨by omega, e, fun j h1 h2 => by omega⟩
    · have ik : i ≠ k := fun h => by subst h; exact e hp
      have ih := lastIx_spec (p := p) (hi := k) ⟨i, by omega, hp⟩
      rw [lastIx, if_neg e]
      refine ⟨by omega, ih.2.1, fun j h1 h2 => ?_⟩
      by_cases ej : j = k
      · subst ej; simpa using e
      · exact ih.2.2 j h1 (by omega)
/-- Layer i ends a cheapest build of n. -/
def hitB (zs ps : List Int) (n i : Nat) : Bool := decide ((ix zs i ≤ n ∧ 0 ≤ tT zs ps (n - (ix zs i).toNat)) ∧ cst (tT zs ps) zs ps n i = tT zs ps n)
theorem hitB_iff {zs ps : List Int} {n i : Nat} : hitB zs ps n i = true ↔ cOk (tT zs ps) zs n i ∧ cst (tT zs ps) zs ps n i = tT zs ps n := by unfold hitB cOk; exact decide_eq_true_iff
def pickI (zs ps : List Int) (n : Nat) : Nat := lastIx (hitB zs ps n) zs.length
theorem pick_spec {zs ps : List Int} (h : BldH zs ps) {n : Nat} (hn : 0 < n) (ht : 0 ≤ tT zs ps n) : pickI zs ps n < zs.length ∧ hitB zs ps n (pickI zs ps n) = true ∧ ∀ j, pickI zs ps n < j → j < zs.length → hitB zs ps n j = false := by
  refine lastIx_spec ?_
  rcases tT_best h hn with ⟨h1, _⟩ | ⟨_, ⟨i, hi, hk, hc⟩, _⟩
  · omega
  · exact ⟨i, hi, hitB_iff.2 ⟨hk, hc⟩⟩
def gL (zs ps : List Int) : Nat → Nat → List Int
  | 0, _ => []
  | f + 1, n => if n = 0 then [] else ix zs (pickI zs ps n) :: gL zs ps f (n - (ix zs (pickI zs ps n)).toNat)
/-- The first of the cheapest builds of n. -/
def gG (zs ps : List Int) (n : Nat) : List Int := gL zs ps n n
theorem pick_z {zs ps : List Int} (h : BldH zs ps) {n : Nat} (hn : 0 < n) (ht : 0 ≤ tT zs ps n) : 1 ≤ ix zs (pickI zs ps n) ∧ ix zs (pickI zs ps n) ≤ n ∧ 0 ≤ tT zs ps (n - (ix zs (pickI zs ps n)).toNat) := by
  have hp := pick_spec h hn ht
  have hk := (hitB_iff.1 hp.2.1).1
  exact ⟨(h.z _ hp.1).1, hk.1, hk.2⟩
theorem gL_fuel {zs ps : List Int} (h : BldH zs ps) : ∀ n, 0 ≤ tT zs ps n → ∀ k, n ≤ k → gL zs ps k n = gL zs ps n n := by
  intro n
  induction n using Nat.strongRecOn with
  | _ n ih =>
    intro ht k hk
    cases n with
    | zero =>
      cases k with
      | zero => rfl
      | succ k => rfl
    | succ m =>
      cases k with
      | zero => omega
      | succ k =>
        obtain ⟨z1, z2, z3⟩ := pick_z h (n := m + 1) (by omega) ht
        rw [gL, gL, if_neg (by omega), if_neg (by omega)]
        rw [ih _ (by omega) z3 k (by omega), ih _ (by omega) z3 m (by omega)]
theorem gG_zero (zs ps : List Int) : gG zs ps 0 = [] := rfl
theorem gG_step {zs ps : List Int} (h : BldH zs ps) {n : Nat} (hn : 0 < n) (ht : 0 ≤ tT zs ps n) : gG zs ps n = ix zs (pickI zs ps n) :: gG zs ps (n - (ix zs (pickI zs ps n)).toNat) := by
  obtain ⟨m, rfl⟩ : ∃ m, n = m + 1 := ⟨n - 1, by omega⟩
  obtain ⟨z1, z2, z3⟩ := pick_z h hn ht
  show gL zs ps (m + 1) (m + 1) = _
  rw [gL, if_neg (by omega)]
  unfold gG
  rw [gL_fuel h _ z3 m (by omega)]
/-- A build of n: cost, price and count. -/
theorem gG_bd {zs ps : List Int} (h : BldH zs ps) : ∀ n, n ≤ 1000 → 0 ≤ tT zs ps n → (gG zs ps n).length ≤ n ∧ tT zs ps n % 2000 = ((gG zs ps n).length : Int) ∧ tT zs ps n ≤ 2000001 * n := by
  intro n
  induction n using Nat.strongRecOn with
  | _ n ih =>
    intro h1000 ht
    rcases Nat.eq_zero_or_pos n with rfl | hn
    · exact ⟨Nat.le_refl _, rfl, by rw [tT_zero]; omega⟩
    · have hp := pick_spec h hn ht
      obtain ⟨z1, z2, z3⟩ := pick_z h hn ht
      have hc := (hitB_iff.1 hp.2.1).2
      have hpp := h.p _ hp.1
      have hs := ih (n - (ix zs (pickI zs ps n)).toNat) (by omega) (by omega) z3
      rw [gG_step h hn ht]
      unfold cst at hc
      generalize (gG zs ps (n - (ix zs (pickI zs ps n)).toNat)) = R at *
      generalize tT zs ps (n - (ix zs (pickI zs ps n)).toNat) = t0 at *
      generalize ix ps (pickI zs ps n) = p at *
      rw [List.length_cons]
      obtain ⟨a1, a2, a3⟩ := hs
      refine ⟨by omega, by omega, by omega⟩
theorem cst_split {zs ps : List Int} (h : BldH zs ps) {n i : Nat} (hi : i < zs.length) (hn : n ≤ 1000) (hk : cOk (tT zs ps) zs n i) :
    cst (tT zs ps) zs ps n i / 2000 = tT zs ps (n - (ix zs i).toNat) / 2000 + ix ps i ∧ cst (tT zs ps) zs ps n i % 2000 = (((gG zs ps (n - (ix zs i).toNat)).length + 1 : Nat) : Int) ∧ 0 ≤ cst (tT zs ps) zs ps n i ∧ (gG zs ps (n - (ix zs i).toNat)).length < 1000 ∧ 0 ≤ tT zs ps (n - (ix zs i).toNat) / 2000 ∧ tT zs ps (n - (ix zs i).toNat) / 2000 ≤ 2000000 := by
  have hz := h.z i hi
  have hp := h.p i hi
  have hb := gG_bd h (n - (ix zs i).toNat) (by omega) hk.2
  obtain ⟨k1, k2⟩ := hk
  unfold cst
  generalize (gG zs ps (n - (ix zs i).toNat)).length = R at *
  generalize tT zs ps (n - (ix zs i).toNat) = t0 at *
  generalize ix ps i = p at *
  obtain ⟨a1, a2, a3⟩ := hb
  refine ⟨by omega, by omega, by omega, by omega, by omega, by omega⟩
/-- What is known of n when the layers from k on have been tried, the greatest first: the least cost b, and the layer i that gave it. -/
def DSt (zs ps : List Int) (n k : Nat) (b : Int) (i : Nat) : Prop :=
  (b = -1 ∧ ∀ j, k ≤ j → j < zs.length → ¬ cOk (tT zs ps) zs n j) ∨
  (0 ≤ b ∧ k ≤ i ∧ i < zs.length ∧ cOk (tT zs ps) zs n i ∧ cst (tT zs ps) zs ps n i = b ∧ (∀ j, k ≤ j → j < zs.length → cOk (tT zs ps) zs n j → b ≤ cst (tT zs ps) zs ps n j) ∧ ∀ j, i < j → j < zs.length → cOk (tT zs ps) zs n j → b < cst (tT zs ps) zs ps n j)
theorem DSt.start (zs ps : List Int) (n : Nat) : DSt zs ps n zs.length (-1) 0 := .inl ⟨rfl, fun j h1 h2 => by omega⟩
theorem DSt.skip {zs ps : List Int} {n k i : Nat} {b : Int} (h : DSt zs ps n (k + 1) b i) (hn : ¬ cOk (tT zs ps) zs n k) : DSt zs ps n k b i := by
  have key : ∀ j, k ≤ j → cOk (tT zs ps) zs n j → k + 1 ≤ j := fun j hj hk => by
    by_cases e : j = k
    · subst e; exact absurd hk hn
    · omega
  rcases h with ⟨h1, h2⟩ | ⟨h1, h2, h3, h4, h5, h6, h7⟩
  · exact .inl ⟨h1, fun j hj hl hk => h2 j (key j hj hk) hl hk⟩
  · exact .inr ⟨h1, by omega, h3, h4, h5, fun j hj hl hk => h6 j (key j hj hk) hl hk, h7⟩
theorem DSt.keep {zs ps : List Int} {n k i : Nat} {b : Int} (h : DSt zs ps n (k + 1) b i) (hb : 0 ≤ b) (hc : ¬ cst (tT zs ps) zs ps n k < b) : DSt zs ps n k b i := by
  rcases h with ⟨h1, h2⟩ | ⟨h1, h2, h3, h4, h5, h6, h7⟩
  · omega
  · refine .inr ⟨h1, by omega, h3, h4, h5, fun j hj hl hk => ?_, h7⟩
    by_cases e : j = k
    · subst e; omega
    · exact h6 j (by omega) hl hk
theorem DSt.take {zs ps : List Int} {n k i : Nat} {b : Int} (h : DSt zs ps n (k + 1) b i) (hk : k < zs.length) (hok : cOk (tT zs ps) zs n k) (h0 : 0 ≤ cst (tT zs ps) zs ps n k) (hc : b < 0 ∨ cst (tT zs ps) zs ps n k < b) : DSt zs ps n k (cst (tT zs ps) zs ps n k) k := by
  rcases h with ⟨h1, h2⟩ | ⟨h1, h2, h3, h4, h5, h6, h7⟩
  · refine .inr ⟨h0, Nat.le_refl _, hk, hok, rfl, fun j hj hl hk => ?_, fun j hj hl hk => absurd hk (h2 j hj hl)⟩
    by_cases e : j = k
    · subst e; exact Int.le_refl _
    · exact absurd hk (h2 j (by omega) hl)
  · refine .inr ⟨h0, Nat.le_refl _, hk, hok, rfl, fun j hj hl hk => ?_, fun j hj hl hk => ?_⟩
    · by_cases e : j = k
      · subst e; exact Int.le_refl _
      · have := h6 j (by omega) hl hk; omega
    · have := h6 j (by omega) hl hk; omega
theorem DSt.pos {zs ps : List Int} {n k i : Nat} {b : Int} (h : DSt zs ps n k b i) : b = -1 ∨ (0 ≤ b ∧ i < zs.length ∧ cOk (tT zs ps) zs n i ∧ cst (tT zs ps) zs ps n i = b) := by
  rcases h with ⟨h1, h2⟩ | ⟨h1, h2, h3, h4, h5, h6, h7⟩
  · exact .inl h1
  · exact .inr ⟨h1, h3, h4, h5⟩
theorem DSt.done {zs ps : List Int} (H : BldH zs ps) {n i : Nat} (hn : 0 < n) {b : Int} (h : DSt zs ps n 0 b i) : b = tT zs ps n ∧ (0 ≤ b → gG zs ps n = ix zs i :: gG zs ps (n - (ix zs i).toNat)) := by
  have hb : b = tT zs ps n := by
    refine BestOf.unique (t := tT zs ps) (zs := zs) (ps := ps) (n := n) (hi := zs.length) ?_ (tT_best H hn)
    rcases h with ⟨h1, h2⟩ | ⟨h1, h2, h3, h4, h5, h6, h7⟩
    · exact .inl ⟨h1, fun j hj => h2 j (by omega) hj⟩
    · exact .inr ⟨h1, ⟨i, h3, h4, h5⟩, fun j hj hk => h6 j (by omega) hj hk⟩
  refine ⟨hb, fun h0 => ?_⟩
  rcases h with ⟨h1, h2⟩ | ⟨h1, h2, h3, h4, h5, h6, h7⟩
  · omega
  · have e : pickI zs ps n = i := lastIx_eq (hitB_iff.2 ⟨h4, by rw [h5, hb]⟩) h3 (fun j hj hl => by
      by_cases hk : cOk (tT zs ps) zs n j
      · have := h7 j hj hl hk
        rw [← Bool.not_eq_true, hitB_iff]
        intro hh
        have := hh.2
        omega
      · rw [← Bool.not_eq_true, hitB_iff]
        exact fun hh => hk hh.1)
    rw [gG_step H hn (by omega), e]
end Go.Proofs.Ytgaahmcbfognhaa
