/-
  AddLast: what it answers; the reference's walk. Names are any strings that Go can hold; the slice is one of the caller's own rows.
-/
import Derived.Test.YtebghfpkgdghcaaGset
import Derived.Test.YtebghfpkgdghcaaPlace
import Derived.Test.YtebghfpkgdghcaaApp
import Derived.Laws.AppendOwnNone
namespace Go.Proofs.Ytebghfpkgdghcaa
open Go.RowKit
set_option maxHeartbeats 3200000
set_option linter.unusedVariables false

def insL (xs : List LastD) (k : Nat) (x : LastD) : List LastD := xs.take k ++ [x] ++ xs.drop k
theorem insL_len (xs : List LastD) (k : Nat) (x : LastD) : (insL xs k x).length = xs.length + 1 := by
  simp only [insL, List.length_append, List.length_take, List.length_drop, List.length_singleton]; omega
noncomputable def addR (xs : List LastD) (x : LastD) : List LastD × Int :=
  if lastsOk xs = false then ([], 1) else if lOk x = false then ([], 2) else if knownAt xs x.s = true then ([], 4) else if 30 ≤ xs.length then ([], 5) else (insL xs (cutAt xs x.s) x, 0)
theorem addR_len (xs : List LastD) (x : LastD) : (addR xs x).1.length ≤ 1048576 := by
  unfold addR
  cases h1 : lastsOk xs
  · simp
  have h9 := (lastsOk_bd h1).1
  cases lOk x
  · simp
  cases knownAt xs x.s
  · by_cases h : 30 ≤ xs.length
    · simp [h]
    · simp only [Bool.true_eq_false, Bool.false_eq_true, if_false, if_neg h, insL_len]; omega
  · simp
theorem find_none {xs : List LastD} {t : ByteArray} (h : Rising xs) (hk : knownAt xs t = false) : findI xs t = -1 := by
  unfold findI; rw [find_of_known h, if_neg (by rw [hk]; decide)]
theorem find_some {xs : List LastD} {t : ByteArray} (h : Rising xs) (hk : knownAt xs t = true) : findI xs t = (cutAt xs t : Int) := by
  unfold findI; rw [find_of_known h, if_pos hk]
theorem not_at {xs : List LastD} {t : ByteArray} (h : Rising xs) (hk : knownAt xs t = false) {j : Nat} (hj : j < xs.length) : isAt xs t j = false := by
  have h1 := find_of_known (t := t) h
  rw [if_neg (by rw [hk]; decide)] at h1
  cases e : isAt xs t j
  · rfl
  · exfalso
    unfold findAt firstOf at h1
    rw [List.find?_range_eq_none] at h1
    have := h1 j hj
    simp [e] at this
/-- No name is the text: what is not behind it stands ahead of it. -/
theorem before_or {xs : List LastD} {t : ByteArray} {j : Nat} (ha : isAt xs t j = false) (hb : Op.bytesLess t.toList (lastsAt xs j).s.toList = false) : before xs t j = true := by
  cases e : before xs t j
  · have := bl_connex e hb
    unfold isAt at ha
    rw [this] at ha
    simp at ha
  · rfl
theorem before_not {xs : List LastD} {t : ByteArray} {j : Nat} (hb : Op.bytesLess t.toList (lastsAt xs j).s.toList = true) : before xs t j = false := by
  cases e : before xs t j
  · rfl
  · have := bl_trans hb e
    rw [bl_irrefl] at this; cases this
def Behind (xs : List LastD) (t : ByteArray) (k : Nat) : Prop := ∀ j, k ≤ j → j < xs.length → before xs t j = false
theorem Behind.none (xs : List LastD) (t : ByteArray) : Behind xs t xs.length := fun j h1 h2 => by omega
theorem Behind.step {xs : List LastD} {t : ByteArray} {k : Nat} (h : Behind xs t (k + 1)) (hk : before xs t k = false) : Behind xs t k := fun j h1 h2 => by
  by_cases e : j = k
  · rw [e]; exact hk
  · exact h j (by omega) h2
theorem Behind.cut {xs : List LastD} {t : ByteArray} {k : Nat} (h : Behind xs t k) (hr : Rising xs) (hk : k ≤ xs.length) (hb : k = 0 ∨ before xs t (k - 1) = true) : cutAt xs t = k :=
  cutAt_eq hk (fun j hj => by
    rcases hb with hb | hb
    · omega
    · exact before_mono hr (show j ≤ k - 1 by omega) (by omega) hb) (fun hlt => h k (Nat.le_refl _) hlt)
section
variable {ops : Array Oper} {rest : List Oper} {o : Oper} {a : Act} {Q : Exit → Act → World → Prop}
/-- 'append(out, xs...)': a whole slice of lasts, which may be empty. -/
theorem wpList_cat_lasts (W : World) (hg : o.guard = none) (s x' : Operand) (ho : o.op = .call { callee := .builtin .append, args := #[s, x'], argTypes := #[27, 27] })
    (base : Nat) (A : Addr) (n c : Nat) (xs : List LastD) (hs : a.eval s = .slice (some A) n c) (hown : W.ownsRow base 31 6 (.slice (some A) n c) n (lasts xs))
    (b off m c2 : Nat) (ys : List LastD) (hx : a.eval x' = .slice (some ⟨b, off, none⟩) m c2) (hl : ys.length = m) (hR : ∀ j u, (lasts ys)[j]? = some u → W.cell? ⟨b, off + j, none⟩ = some u) (hbase : base ≤ W.heap.size) (hn : n + m ≤ 1048577)
    (h : ∀ g' c' w', base ≤ g' → g' < w'.heap.size → w'.ownsRow base 31 6 (.slice (some ⟨g', 0, none⟩) (n + m) c') (n + m) (lasts (xs ++ ys)) → W.grownBy w' (Value.slice (some A) n c).ownBlock → wpList Try.prog ops Q rest (a.put o.dst (.slice (some ⟨g', 0, none⟩) (n + m) c')) w') :
    wpList Try.prog ops Q (o :: rest) a W := by
  obtain ⟨i0, hi, hz0, hz1, hz2⟩ := info_parts lasts_info
  refine wpList_append_own _ hg s x' 27 ho base 31 i0 _ 6 56 Try.underlying27 hi hz0 hz1 hz2 rfl (by decide) _ _ _ hs hown ⟨b, off, none⟩ m c2 (lasts ys) hx (by rw [lasts_len, hl]) ?_ ?_ ?_ ?_ hbase ?_
  · intro j u hu
    rw [Addr.add_lit]
    exact hR j u hu
  · intro u hu
    simp only [lasts, List.mem_flatMap] at hu
    obtain ⟨y, _, hu⟩ := hu
    simp only [LastD.cells, List.mem_cons, List.not_mem_nil, or_false] at hu
    rcases hu with rfl | rfl | rfl | rfl | rfl | rfl <;> rfl
  · unfold maxLen; omega
  · omega
  · intro v' w' hown' hg' hnn
    rcases hown'.2 with ⟨h0, _⟩ | ⟨g, cap, cur, hv, hb, hgg, _⟩
    · exact absurd (hnn.1 h0).1 (by simp)
    · rw [hv] at hown' ⊢
      refine h g cap w' hb ?_ ?_ hg'
      · rcases Nat.lt_or_ge g w'.heap.size with hlt | hge
        · exact hlt
        · rw [Array.getElem?_eq_none hge] at hgg; cases hgg
      · rw [lasts_append]; exact hown'
end
theorem lasts_take (xs : List LastD) : ∀ k, lasts (xs.take k) = (lasts xs).take (k * 6) := by
  induction xs with
  | nil => intro k; simp [lasts]
  | cons y ys ih =>
    intro k
    cases k with
    | zero => simp [lasts]
    | succ k =>
      have e : lasts (y :: ys) = y.cells ++ lasts ys := by simp [lasts]
      have e2 : lasts (y :: ys.take k) = y.cells ++ lasts (ys.take k) := by simp [lasts]
      have hl : y.cells.length = 6 := rfl
      rw [List.take_succ_cons, e, e2, ih k, List.take_append, List.take_of_length_le (l := y.cells) (i := (k + 1) * 6) (by rw [hl]; omega), hl, show (k + 1) * 6 - 6 = k * 6 by omega]
theorem lasts_drop (xs : List LastD) : ∀ k, lasts (xs.drop k) = (lasts xs).drop (k * 6) := by
  induction xs with
  | nil => intro k; simp [lasts]
  | cons y ys ih =>
    intro k
    cases k with
    | zero => simp [lasts]
    | succ k =>
      have e : lasts (y :: ys) = y.cells ++ lasts ys := by simp [lasts]
      have hl : y.cells.length = 6 := rfl
      rw [List.drop_succ_cons, e, ih k, List.drop_append, List.drop_of_length_le (l := y.cells) (i := (k + 1) * 6) (by rw [hl]; omega), hl, List.nil_append, show (k + 1) * 6 - 6 = k * 6 by omega]
theorem ownL_take {w : World} {base g n c : Nat} {os : List LastD} (h : w.ownsRow base 31 6 (.slice (some ⟨g, 0, none⟩) n c) n (lasts os)) (k : Nat) : ∀ j u, (lasts (os.take k))[j]? = some u → w.cell? ⟨g, 0 + j, none⟩ = some u := fun j u hu => by
  rw [lasts_take, List.getElem?_take] at hu
  by_cases hj : j < k * 6
  · rw [if_pos hj] at hu
    have hjl : j < n * 6 := by
      rcases Nat.lt_or_ge j (lasts os).length with h1 | h1
      · have := h.1; omega
      · rw [List.getElem?_eq_none h1] at hu; cases hu
    rw [Nat.zero_add, h.cellAt j hjl]; exact hu
  · rw [if_neg hj] at hu; cases hu
theorem ownL_drop {w : World} {base g n c : Nat} {os : List LastD} (h : w.ownsRow base 31 6 (.slice (some ⟨g, 0, none⟩) n c) n (lasts os)) (k : Nat) : ∀ j u, (lasts (os.drop k))[j]? = some u → w.cell? ⟨g, k * 6 + j, none⟩ = some u := fun j u hu => by
  rw [lasts_drop, List.getElem?_drop] at hu
  have hjl : k * 6 + j < n * 6 := by
    rcases Nat.lt_or_ge (k * 6 + j) (lasts os).length with h1 | h1
    · have := h.1; omega
    · rw [List.getElem?_eq_none h1] at hu; cases hu
  rw [h.cellAt _ hjl]; exact hu
theorem ownL_drop_if {w : World} {base g n c : Nat} {os : List LastD} (h : w.ownsRow base 31 6 (.slice (some ⟨g, 0, none⟩) n c) n (lasts os)) (k c' : Nat) (hc : n ≤ c') : ∀ j u, (lasts (os.drop k))[j]? = some u → w.cell? ⟨g, (if c' = k then 0 else k * 6) + j, none⟩ = some u := fun j u hu => by
  by_cases e : c' = k
  · have hl : os.length = n := by have := h.1; rw [lasts_len] at this; omega
    rw [List.drop_of_length_le (by omega)] at hu
    simp [lasts] at hu
  · rw [if_neg e]
    exact ownL_drop h k j u hu
theorem own_cases {w : World} {base k n c : Nat} {E : TypeId} {A : Option Addr} {xs : List Value} (h : w.ownsRow base E k (.slice A n c) n xs) :
    (A = none ∧ n = 0 ∧ c = 0) ∨ ∃ g, A = some ⟨g, 0, none⟩ ∧ base ≤ g ∧ g < w.heap.size ∧ n ≤ c := by
  rcases h.2 with ⟨hv, h0⟩ | ⟨g, cap, cur, hv, hb, hg, hnc, _⟩
  · simp only [Value.slice.injEq] at hv
    exact .inl ⟨hv.1, h0, hv.2.2⟩
  · simp only [Value.slice.injEq, true_and] at hv
    obtain ⟨rfl, rfl⟩ := hv
    refine .inr ⟨g, rfl, hb, ?_, hnc⟩
    rcases Nat.lt_or_ge g w.heap.size with hlt | hge
    · exact hlt
    · rw [Array.getElem?_eq_none hge] at hg; cases hg
theorem cut_atL (g k c' : Nat) : (if c' = k then some ⟨g, 0, none⟩ else some ⟨g, k * 6, none⟩ : Option Addr) = some ⟨g, if c' = k then 0 else k * 6, none⟩ := by split <;> rfl
end Go.Proofs.Ytebghfpkgdghcaa
