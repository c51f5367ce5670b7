/-
  'clear' on a slice of feet, and what it leaves; no condition: nothing here speaks of a function of the program.
-/
import Derived.Lib.SliceRun
import Derived.Test.YtlbgognkaolamaaFootW
namespace Go.Proofs.Ytlbgognkaolamaa
open Go.RowKit
theorem zeroCells_four (a : Value) (n : Nat) : (Builtin.zeroCells #[a, a, a, a] n).toList = List.replicate (n * 4) a := by
  simp only [Builtin.zeroCells]
  apply List.ext_getElem
  · simp
  · intro i h1 h2
    have h : i % 4 = 0 ∨ i % 4 = 1 ∨ i % 4 = 2 ∨ i % 4 = 3 := by omega
    rcases h with h | h | h | h <;> simp [h]
theorem run_clear_four {P : Program} (w : World) (t e ty : TypeId) (z a : Value) (ht : P.underlying t = some (.slice e)) (hv : ∀ w, (zeroValue e).run P w = .ok z w) (hz : z.cells = #[a, a, a, a]) (h1 : a.oneCell' = true) (b o n c : Nat) (hn : 0 < n)
    (hc : ∀ j, j < n * 4 → (w.cell? ⟨b, o + j, none⟩).isSome = true) (hf : ∀ j, j < n * 4 → w.frozen? ⟨b, o + j, none⟩ = false) :
    (Builtin.clear_ #[t] ty #[.slice (some ⟨b, o, none⟩) n c]).run P w = .ok (.tuple #[]) (w.setCells b o (List.replicate (n * 4) a)) := by
  have hzc : (Builtin.zeroCells z.cells n).toList = List.replicate (n * 4) a := by rw [hz, zeroCells_four]
  have hst := run_storeCells_cells (P := P) b o (List.replicate (n * 4) a) 0 w (by simpa using hc) (by simpa using hf) (by intro v hv'; rw [List.eq_of_mem_replicate hv']; exact h1)
  simp only [Nat.add_zero] at hst
  obtain ⟨m, rfl⟩ : ∃ m, n = m + 1 := ⟨n - 1, by omega⟩
  simp [Builtin.clear_, run_underlying ht, hv, hzc, hst]
theorem below_setCellsV {B b : Nat} {a : World} (hb : B ≤ b) : ∀ (vs : List Value) (o : Nat) (w : World), Below B a w → Below B a (w.setCells b o vs)
  | [], _, _, h => h
  | v :: vs, o, _, h => below_setCellsV hb vs (o + 1) _ (h.setCell hb v)
end Go.Proofs.Ytlbgognkaolamaa
