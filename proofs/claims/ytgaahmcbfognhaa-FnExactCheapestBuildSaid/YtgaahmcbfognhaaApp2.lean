/-
  Two rows of the call's own that both grow: rows that lie apart stay apart; no condition but sizes that fit.
-/
import Derived.Test.YtgaahmcbfognhaaApp
import Derived.Test.YtgaahmcbfognhaaBlk2
import Derived.Maps.AppendAt
namespace Go.Proofs.Ytgaahmcbfognhaa
open Go.RowKit
set_option maxHeartbeats 400000

/-- Two values whose rows lie in different blocks. -/
def Apart (v u : Value) : Prop := ∀ g g', v.ownBlock = some g → u.ownBlock = some g' → g ≠ g'
theorem Apart.symm {v u : Value} (h : Apart v u) : Apart u v := fun g g' h1 h2 e => h g' g h2 h1 e.symm
theorem Apart.step {v v' u : Value} {z : Nat} (h : Apart v u) (hv : v'.ownBlock = v.ownBlock ∨ v'.ownBlock = some z) (hu : ∀ k, u.ownBlock = some k → k < z) : Apart v' u := fun g g' h1 h2 e => by
  rcases hv with hv | hv
  · exact h g g' (hv ▸ h1) h2 e
  · rw [hv] at h1
    cases h1
    have := hu g' h2
    omega
theorem keep_apart {w w' : World} {base k n : Nat} {E : TypeId} {v u : Value} {xs : List Value} (h : w.ownsRow base E k v n xs) (hg : w.grownBy w' u.ownBlock) (hd : Apart v u) : w'.ownsRow base E k v n xs :=
  keep_own h hg fun g g' h1 h2 => hd g g' h1 h2
/-- A box is kept where a row of another element type is written. -/
theorem blk_keep {w w' : World} {base k n g : Nat} {e t : TypeId} {v : Value} {xs : List Value} {cs : Array Value} (h : Blk w g t cs) (hg : w.grownBy w' v.ownBlock) (ho : w.ownsRow base e k v n xs) (ht : e ≠ t) : Blk w' g t cs :=
  (hg.block g h.lt (fun e9 => by
    rcases ho.2 with ⟨rfl, _⟩ | ⟨g', cap, cur, rfl, _, hg', _⟩
    · cases e9
    · cases e9
      unfold Blk at h
      rw [h] at hg'
      cases hg'
      exact ht rfl)).trans h
section
variable {ops : Array Oper} {rest : List Oper} {o : Oper} {a : Act} {Q : Exit → Act → World → Prop}
/-- 'append(out, x)': the new element lies in a block laid just before; where the row lies then. -/
theorem wpList_app_int_at (W : World) (hg : o.guard = none) (s x : Operand) (ho : o.op = .call { callee := .builtin .append, args := #[s, x], argTypes := #[22, 22] })
    (base : Nat) (A : Option Addr) (n c : Nat) (zs : List Int) (val : Int) (hs : a.eval s = .slice A n c) (hown : W.ownsRow base 2 1 (.slice A n c) n (ints zs))
    (hx : a.eval x = .slice (some ⟨W.heap.size, 0, none⟩) 1 1) (hbase : base ≤ W.heap.size) (hn : n ≤ 1048577)
    (h : ∀ A' c' w', w'.ownsRow base 2 1 (.slice A' (n + 1) c') (n + 1) (ints (zs ++ [val])) → W.grownBy w' (Value.slice A n c).ownBlock → ((Value.slice A' (n + 1) c').ownBlock = (Value.slice A n c).ownBlock ∨ (Value.slice A' (n + 1) c').ownBlock = some (W.heap.size + 1)) → wpList Try.prog ops Q rest (a.put o.dst (.slice A' (n + 1) c')) w') :
    wpList Try.prog ops Q (o :: rest) a (W.alloc (.cells #[.int .i64 val] 2)) := by
  obtain ⟨i0, hi, hz0, hz1, hz2⟩ := info_parts int_info
  refine wpList_append_own_at _ hg s x 22 ho base 2 i0 (.int .i64 0) 1 8 Try.underlying22 hi hz0 hz1 hz2 rfl (by decide) _ _ _ hs (hown.alloc _) ⟨W.heap.size, 0, none⟩ 1 1 [.int .i64 val] hx rfl ?_ ?_ ?_ ?_ ?_ ?_
  · exact cell_one_new _ _ _
  · intro u hu; simp at hu; subst hu; rfl
  · unfold maxLen; omega
  · omega
  · simp; omega
  · intro v' w' hown' hg' _ hat
    have hex : ∃ A' c', v' = .slice A' (n + 1) c' := by
      rcases hown'.2 with ⟨_, h0⟩ | ⟨g, cap, cur, hv, _⟩
      · omega
      · exact ⟨_, _, hv⟩
    obtain ⟨A', c', hv⟩ := hex
    rw [hv] at hown' hat ⊢
    refine h A' c' w' ?_ ?_ (by simpa using hat)
    · rw [ints_append]; exact hown'
    · exact gtrans (World.grownBy_alloc W _ _) hg'
end
end Go.Proofs.Ytgaahmcbfognhaa
