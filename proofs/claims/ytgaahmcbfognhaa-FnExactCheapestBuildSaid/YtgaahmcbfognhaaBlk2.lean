/-
  More of blocks that are known whole: a draw, a store into one; what is old behind a call; no condition: nothing here speaks of the program.
-/
import Derived.Test.YtgaahmcbfognhaaBlk
namespace Go.Proofs.Ytgaahmcbfognhaa
open Go.RowKit
theorem Blk.drew {w : World} {g : Nat} {t : TypeId} {cs : Array Value} (h : Blk w g t cs) : Blk w.drew g t cs := h
theorem Blk.set {w : World} {g : Nat} {t : TypeId} {cs : Array Value} (h : Blk w g t cs) (k : Nat) (v : Value) : Blk (w.setCell ⟨g, k, none⟩ v) g t (cs.setIfInBounds k v) := by
  unfold Blk at h ⊢
  simp only [World.setCell, Array.getElem?_modify, if_pos, h, Option.map_some]; rfl
theorem Blk.keep {w : World} {g : Nat} {t : TypeId} {cs : Array Value} (h : Blk w g t cs) (g' k : Nat) (v : Value) (hne : g ≠ g') : Blk (w.setCell ⟨g', k, none⟩ v) g t cs := by
  unfold Blk at h ⊢
  rw [Below.heap_setCell _ _ _ _ hne]; exact h
/-- What lay in W lies as it did. -/
theorem old_of {W wz : World} (h : Below W.heap.size W wz) : Below W.heap.size W wz ∧ ∀ b o, b < W.heap.size → wz.cell? ⟨b, o, none⟩ = W.cell? ⟨b, o, none⟩ := ⟨h, (bcell h).1⟩
theorem bsize {W w1 : World} (hb : Below W.heap.size W w1) : ∀ n, n < W.heap.size → n < w1.heap.size := fun _ h => Nat.lt_of_lt_of_le h hb.size
/-- A slot of a frame that is written out. -/
theorem put_arr (l : List Value) (i : Nat) (v : Value) (d : List Deferred) : Act.put ⟨l.toArray, d⟩ (some i) v = ⟨(l.set i v).toArray, d⟩ := by simp [Act.put]
end Go.Proofs.Ytgaahmcbfognhaa
