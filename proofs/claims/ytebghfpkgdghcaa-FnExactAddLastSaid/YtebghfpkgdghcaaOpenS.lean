/-
  How a slice of structs that comes in is opened: from 'it reads as data' to the list behind it; no condition but that it reads.
-/
import Derived.Test.YtebghfpkgdghcaaOpen
import Derived.Test.YtebghfpkgdghcaaLastL
import Derived.ChangeSame
set_option maxRecDepth 100000
namespace Go.Proofs.Ytebghfpkgdghcaa
open Go.ChangeShapes Go.WideShapes Go.ChangeAt Go.RowKit Go.Joins Go.Deep

/-- One thing chosen for each place. -/
theorem list_of {α : Type} {P : Nat → α → Prop} : ∀ n : Nat, (∀ i, i < n → ∃ x, P i x) → ∃ xs : List α, xs.length = n ∧ ∀ i x, xs[i]? = some x → P i x
  | 0, _ => ⟨[], rfl, fun i x h => by simp at h⟩
  | n + 1, h => by
    obtain ⟨xs, hl, hx⟩ := list_of n (fun i hi => h i (by omega))
    obtain ⟨x, hp⟩ := h n (by omega)
    refine ⟨xs ++ [x], by simp [hl], fun i y hy => ?_⟩
    rcases Nat.lt_trichotomy i n with hlt | rfl | hgt
    · rw [List.getElem?_append_left (by omega)] at hy; exact hx i y hy
    · rw [List.getElem?_append_right (by omega), hl] at hy
      simp at hy; subst hy; exact hp
    · rw [List.getElem?_eq_none (by simp [hl]; omega)] at hy; cases hy
section
variable {H : Type} {enc : TypeId × Value → H} {P : Program} {w : World} {base : Nat} {spare : Nat → Bool} {held : Bool}
theorem open_slice_fields {t e : TypeId} {fs : Array Field} {fuel : Nat} {cs : List Value} {x : DataW H × List MemPlace} (ht : P.underlying t = some (.slice e)) (he : P.underlying e = some (.struct fs))
    (hone : oneCellFields P fs = true) (hC : P.cellsOf e = fs.size) (h : DataW.trod enc P w base spare held fuel t cs = some x) :
    (cs = [.slice none 0 0] ∧ x = (.nil, [])) ∨
    ∃ (a : Addr) (len cap m : Nat) (D : Nat → DataW H) (Pl : Nat → List MemPlace), cs = [.slice (some a) len cap] ∧ base ≤ a.block ∧ len ≤ cap ∧ cap ≤ maxLen ∧ m = (if spare a.block then cap else len) ∧
      x = (.slice ((List.range len).map D) ((List.range (m - len)).map fun j => D (len + j)), MemPlace.row a (m * fs.size) ++ (List.range m).flatMap Pl) ∧
      ∀ i, i < m → ∃ (ys : List (DataW H × List MemPlace)) (n : Nat), D i = .agg (ys.map (·.1)) ∧ Pl i = ys.flatMap (·.2) ∧ ys.length = fs.size ∧
        ∀ (j : Nat) (f : Field), fs[j]? = some f → ∃ (v : Value) (y : DataW H × List MemPlace), w.cell? (a.add (i * fs.size + j)) = some v ∧ ys[j]? = some y ∧ DataW.trod enc P w base spare held n f.type [v] = some y := by
  rcases open_slice ht h with h0 | ⟨a, len, cap, m, n, D, Pl, hcs, hb, hl, hm, hmm, hx, hi⟩
  · exact .inl h0
  · refine .inr ⟨a, len, cap, m, D, Pl, hcs, hb, hl, hm, hmm, by rw [hC] at hx; exact hx, fun i him => ?_⟩
    obtain ⟨cs', hc, ht'⟩ := hi i him
    rw [hC] at hc
    obtain ⟨ys, n', hn', hy, hlen, hyl, hf⟩ := DataW.trod_struct he ht'
    obtain ⟨_, hcl, hat⟩ := World.cells?_some hc
    simp only [Prod.mk.injEq] at hy
    refine ⟨ys, n', hy.1, hy.2, hyl, fun j f hj => ?_⟩
    obtain ⟨ho, hk⟩ := hone_of hone j f hj
    have hjl : j < fs.size := (Array.getElem?_eq_some_iff.1 hj).1
    have hcell := hat j hjl
    have hv : cs'[j]? = some (cs'[j]'(by omega)) := List.getElem?_eq_getElem (by omega)
    have h1 := hf j f hj
    rw [ho, hk] at h1
    have hone' : (cs'.drop j).take 1 = [cs'[j]'(by omega)] := by
      rw [List.drop_eq_getElem_cons (by omega)]
      rfl
    rw [hone'] at h1
    have hys : ys[j]? = some (ys[j]'(by omega)) := List.getElem?_eq_getElem (by omega)
    refine ⟨_, _, ?_, hys, h1.trans hys⟩
    rw [← Go.Deep.add_add, hcell, hv]
end
section
variable {H : Type} {enc : TypeId × Value → H} {w : World} {base : Nat} {held : Bool}
theorem lasts_field {xs : List LastD} {j : Nat} {u : Value} (h : (lasts xs)[j]? = some u) : j < xs.length * 6 := by
  rcases Nat.lt_or_ge j (xs.length * 6) with hlt | hge
  · exact hlt
  · rw [List.getElem?_eq_none (by rw [lasts_len]; exact hge)] at h; cases h
theorem open_LastS {a0 : Option Addr} {n c : Nat} {d : DataW H} {p : List MemPlace} (h : DataW.Trod enc Try.prog w base (fun _ => true) held 22 (.slice a0 n c) d p) :
    ∃ xs : List LastD, Rd w 6 a0 n (lasts xs) ∧ n ≤ 9223372036854775807 ∧ ∀ x ∈ xs, x.s.size ≤ maxLen := by
  obtain ⟨fuel, hf⟩ := h
  rcases open_slice_fields Try.underlying22 Try.underlying24 (by kernel_rfl) (by kernel_rfl) hf with ⟨hcs, _⟩ | ⟨a, len, cap, m, _, _, hcs, _, hl, hm, hmm, _, hi⟩
  · simp [Value.cells] at hcs
    obtain ⟨rfl, rfl, rfl⟩ := hcs
    exact ⟨[], ⟨rfl, fun h => absurd h (by omega)⟩, by decide, by simp⟩
  · simp [Value.cells] at hcs
    obtain ⟨rfl, rfl, rfl⟩ := hcs
    simp only [if_true] at hmm
    subst hmm
    have hm' : m ≤ 9223372036854775807 := by unfold maxLen at hm; exact hm
    have hx : ∀ i, i < n → ∃ x : LastD, (w.cell? (a.add (i * 6 + 0)) = some (.string x.s) ∧ w.cell? (a.add (i * 6 + 1)) = some (.int .i64 x.l) ∧ w.cell? (a.add (i * 6 + 2)) = some (.int .i64 x.b) ∧ w.cell? (a.add (i * 6 + 3)) = some (.int .i64 x.i) ∧ w.cell? (a.add (i * 6 + 4)) = some (.int .i64 x.h) ∧ w.cell? (a.add (i * 6 + 5)) = some (.int .i64 x.p)) ∧ x.s.size ≤ maxLen := by
      intro i hin
      obtain ⟨ys, q, _, _, _, hfl⟩ := hi i (by omega)
      obtain ⟨v0, y0, c0, _, t0⟩ := hfl 0 _ rfl
      obtain ⟨z0, rfl, hz0⟩ := str_field t0
      obtain ⟨v1, y1, c1, _, t1⟩ := hfl 1 _ rfl
      obtain ⟨z1, rfl, -⟩ := int_field t1
      obtain ⟨v2, y2, c2, _, t2⟩ := hfl 2 _ rfl
      obtain ⟨z2, rfl, -⟩ := int_field t2
      obtain ⟨v3, y3, c3, _, t3⟩ := hfl 3 _ rfl
      obtain ⟨z3, rfl, -⟩ := int_field t3
      obtain ⟨v4, y4, c4, _, t4⟩ := hfl 4 _ rfl
      obtain ⟨z4, rfl, -⟩ := int_field t4
      obtain ⟨v5, y5, c5, _, t5⟩ := hfl 5 _ rfl
      obtain ⟨z5, rfl, -⟩ := int_field t5
      exact ⟨⟨z0, z1, z2, z3, z4, z5⟩, ⟨c0, c1, c2, c3, c4, c5⟩, hz0⟩
    obtain ⟨xs, hlen, hxs⟩ := list_of n hx
    refine ⟨xs, ⟨by rw [lasts_len, hlen], fun hn => ?_⟩, by omega, fun x hx => by obtain ⟨i, hil, rfl⟩ := List.getElem_of_mem hx; exact (hxs i _ (List.getElem?_eq_getElem hil)).2⟩
    obtain ⟨b, off, spot⟩ := a
    have h0 := (hxs 0 xs[0] (List.getElem?_eq_getElem (by omega))).1.1
    have hspot : spot = none := by simpa [Addr.add] using World.cell?_spot h0
    subst hspot
    refine ⟨b, off, rfl, World.block_lt_of_cell? w _ h0, fun j u hu => ?_⟩
    have hj := lasts_field hu
    have hk : j / 6 < xs.length := by omega
    have hc := (hxs (j / 6) xs[j / 6] (List.getElem?_eq_getElem hk)).1
    rw [lasts_eq hk] at hc
    have hm : j % 6 = 0 ∨ j % 6 = 1 ∨ j % 6 = 2 ∨ j % 6 = 3 ∨ j % 6 = 4 ∨ j % 6 = 5 := by omega
    rcases hm with e | e | e | e | e | e
    · have ej : j = j / 6 * 6 + 0 := by omega
      have h1 := hc.1
      rw [← ej, Go.WideShapes.add_plain] at h1
      have h2 := lasts_get0 hk
      rw [show j / 6 * 6 = j by omega] at h2
      rw [h2] at hu
      cases hu
      exact h1
    · have ej : j = j / 6 * 6 + 1 := by omega
      have h1 := hc.2.1
      rw [← ej, Go.WideShapes.add_plain] at h1
      have h2 := lasts_get1 hk
      rw [← ej] at h2
      rw [h2] at hu
      cases hu
      exact h1
    · have ej : j = j / 6 * 6 + 2 := by omega
      have h1 := hc.2.2.1
      rw [← ej, Go.WideShapes.add_plain] at h1
      have h2 := lasts_get2 hk
      rw [← ej] at h2
      rw [h2] at hu
      cases hu
      exact h1
    · have ej : j = j / 6 * 6 + 3 := by omega
      have h1 := hc.2.2.2.1
      rw [← ej, Go.WideShapes.add_plain] at h1
      have h2 := lasts_get3 hk
      rw [← ej] at h2
      rw [h2] at hu
      cases hu
      exact h1
    · have ej : j = j / 6 * 6 + 4 := by omega
      have h1 := hc.2.2.2.2.1
      rw [← ej, Go.WideShapes.add_plain] at h1
      have h2 := lasts_get4 hk
      rw [← ej] at h2
      rw [h2] at hu
      cases hu
      exact h1
    · have ej : j = j / 6 * 6 + 5 := by omega
      have h1 := hc.2.2.2.2.2
      rw [← ej, Go.WideShapes.add_plain] at h1
      have h2 := lasts_get5 hk
      rw [← ej] at h2
      rw [h2] at hu
      cases hu
      exact h1
end
end Go.Proofs.Ytebghfpkgdghcaa
