/-
  Appending one number to a row of the call's own; lists that grow by steps; no condition but sizes that fit.
-/
import Derived.Test.YtgaahmcbfognhaaInts
namespace Go.Proofs.Ytgaahmcbfognhaa
open Go.RowKit
set_option maxHeartbeats 400000

/-- A list that grows by steps. -/
def accL (g : Nat → List Int) : Nat → List Int
  | 0 => []
  | k + 1 => accL g k ++ g k
theorem accL_add {g : Nat → List Int} {k : Nat} {x : Int} (h : g k = [x]) : accL g k ++ [x] = accL g (k + 1) := by rw [← h]; rfl
theorem accL_skip {g : Nat → List Int} {k : Nat} (h : g k = []) : accL g k = accL g (k + 1) := by show _ = accL g k ++ g k; rw [h, List.append_nil]
theorem accL_len {g : Nat → List Int} (h : ∀ k, (g k).length ≤ 1) : ∀ k, (accL g k).length ≤ k
  | 0 => Nat.le_refl _
  | k + 1 => by
    have := accL_len h k
    have := h k
    show (accL g k ++ g k).length ≤ _
    rw [List.length_append]; omega
theorem ints_append (xs ys : List Int) : ints (xs ++ ys) = ints xs ++ ints ys := by simp [ints]

section
variable {ops : Array Oper} {rest : List Oper} {o : Oper} {a : Act} {Q : Exit → Act → World → Prop}
/-- 'append(out, x)': the new element lies in a block laid just before. -/
theorem wpList_app_int (W : World) (hg : o.guard = none) (s x : Operand) (ho : o.op = .call { callee := .builtin .append, args := #[s, x], argTypes := #[22, 22] })
    (base : Nat) (A : Option Addr) (n c : Nat) (zs : List Int) (val : Int) (hs : a.eval s = .slice A n c) (hown : W.ownsRow base 2 1 (.slice A n c) n (ints zs))
    (hx : a.eval x = .slice (some ⟨W.heap.size, 0, none⟩) 1 1) (hbase : base ≤ W.heap.size) (hn : n ≤ 1048577)
    (h : ∀ A' c' w', w'.ownsRow base 2 1 (.slice A' (n + 1) c') (n + 1) (ints (zs ++ [val])) → W.grownBy w' (Value.slice A n c).ownBlock → wpList Try.prog ops Q rest (a.put o.dst (.slice A' (n + 1) c')) w') :
    wpList Try.prog ops Q (o :: rest) a (W.alloc (.cells #[.int .i64 val] 2)) := by
  obtain ⟨i0, hi, hz0, hz1, hz2⟩ := info_parts int_info
  refine wpList_append_own _ hg s x 22 ho base 2 i0 (.int .i64 0) 1 8 Try.underlying22 hi hz0 hz1 hz2 rfl (by decide) _ _ _ hs (hown.alloc _) ⟨W.heap.size, 0, none⟩ 1 1 [.int .i64 val] hx rfl ?_ ?_ ?_ ?_ ?_ ?_
  · exact cell_one_new _ _ _
  · intro u hu; simp at hu; subst hu; rfl
  · unfold maxLen; omega
  · omega
  · simp; omega
  · intro v' w' hown' hg' _
    have hex : ∃ A' c', v' = .slice A' (n + 1) c' := by
      rcases hown'.2 with ⟨_, h0⟩ | ⟨g, cap, cur, hv, _⟩
      · omega
      · exact ⟨_, _, hv⟩
    obtain ⟨A', c', hv⟩ := hex
    rw [hv] at hown' ⊢
    refine h A' c' w' ?_ ?_
    · rw [ints_append]; exact hown'
    · exact gtrans (World.grownBy_alloc W _ _) hg'
theorem wpList_app_intG (W : World) (hg : o.guard = none) (s x : Operand) (ho : o.op = .call { callee := .builtin .append, args := #[s, x], argTypes := #[22, 22] })
    (base : Nat) (A : Option Addr) (n c : Nat) (zs : List Int) (val : Int) (g : Nat) (hs : a.eval s = .slice A n c) (hx : a.eval x = .slice (some ⟨g, 0, none⟩) 1 1) (hcell : W.cell? ⟨g, 0, none⟩ = some (.int .i64 val))
    (hown : W.ownsRow base 2 1 (.slice A n c) n (ints zs)) (hbase : base ≤ W.heap.size) (hn : n ≤ 1048577)
    (h : ∀ A' c' w', w'.ownsRow base 2 1 (.slice A' (n + 1) c') (n + 1) (ints (zs ++ [val])) → W.grownBy w' (Value.slice A n c).ownBlock → wpList Try.prog ops Q rest (a.put o.dst (.slice A' (n + 1) c')) w') :
    wpList Try.prog ops Q (o :: rest) a W := by
  obtain ⟨i0, hi, hz0, hz1, hz2⟩ := info_parts int_info
  refine wpList_append_own _ hg s x 22 ho base 2 i0 (.int .i64 0) 1 8 Try.underlying22 hi hz0 hz1 hz2 rfl (by decide) _ _ _ hs hown ⟨g, 0, none⟩ 1 1 [.int .i64 val] hx rfl ?_ ?_ ?_ ?_ hbase ?_
  · intro j u hu
    cases j with
    | zero => simp at hu; subst hu; simpa [Addr.add] using hcell
    | succ j => simp at hu
  · intro u hu; simp at hu; subst hu; rfl
  · unfold maxLen; omega
  · omega
  · intro v' w' hown' hg' _
    have hex : ∃ A' c', v' = .slice A' (n + 1) c' := by
      rcases hown'.2 with ⟨_, h0⟩ | ⟨g, cap, cur, hv, _⟩
      · omega
      · exact ⟨_, _, hv⟩
    obtain ⟨A', c', hv⟩ := hex
    rw [hv] at hown' ⊢
    refine h A' c' w' ?_ hg'
    rw [ints_append]; exact hown'
/-- The same inside a region that draws its order. -/
theorem step_app_int {K : Act → World → Prop} {E : Prop} (W : World) (hg : o.guard = none) (s x : Operand) (ho : o.op = .call { callee := .builtin .append, args := #[s, x], argTypes := #[22, 22] })
    (base : Nat) (A : Option Addr) (n c : Nat) (zs : List Int) (val : Int) (g : Nat) (hs : a.eval s = .slice A n c) (hx : a.eval x = .slice (some ⟨g, 0, none⟩) 1 1) (hcell : W.cell? ⟨g, 0, none⟩ = some (.int .i64 val))
    (hown : W.ownsRow base 2 1 (.slice A n c) n (ints zs)) (hbase : base ≤ W.heap.size) (hn : n ≤ 1048577)
    (h : ∀ A' c' w', w'.ownsRow base 2 1 (.slice A' (n + 1) c') (n + 1) (ints (zs ++ [val])) → W.grownBy w' (Value.slice A n c).ownBlock → K (a.put o.dst (.slice A' (n + 1) c')) w') :
    if Region.wanted o (yielded ops a.tmps) = true then Oper.wp Try.prog o a W K Q else E := by
  have hw : Region.wanted o (yielded ops a.tmps) = true := by simp [Region.wanted, hg]
  rw [if_pos hw]
  obtain ⟨i0, hi, hz0, hz1, hz2⟩ := info_parts int_info
  refine wp_append_own _ s x 22 ho base 2 i0 (.int .i64 0) 1 8 Try.underlying22 hi hz0 hz1 hz2 rfl (by decide) _ _ _ hs hown ⟨g, 0, none⟩ 1 1 [.int .i64 val] hx rfl ?_ ?_ ?_ ?_ hbase ?_
  · intro j u hu
    cases j with
    | zero => simp at hu; subst hu; simpa [Addr.add] using hcell
    | succ j => simp at hu
  · intro u hu; simp at hu; subst hu; rfl
  · unfold maxLen; omega
  · omega
  · intro v' w' hown' hg' _
    have hex : ∃ A' c', v' = .slice A' (n + 1) c' := by
      rcases hown'.2 with ⟨_, h0⟩ | ⟨g, cap, cur, hv, _⟩
      · omega
      · exact ⟨_, _, hv⟩
    obtain ⟨A', c', hv⟩ := hex
    rw [hv] at hown' ⊢
    refine h A' c' w' ?_ hg'
    rw [ints_append]; exact hown'
end
/-- What lay below the base lies as it did, behind an append to a row from the base on. -/
theorem app_below {B0 base : Nat} {W0 W w' : World} {E : TypeId} {k n c : Nat} {A : Option Addr} {xs : List Value} (hown : W.ownsRow base E k (.slice A n c) n xs) (hB : Below B0 W0 W) (h0 : B0 ≤ base) (hW : B0 ≤ W.heap.size)
    (hg : W.grownBy w' (Value.slice A n c).ownBlock) : Below B0 W0 w' :=
  hB.grown hg hW (fun q hq => Nat.le_trans h0 (hown.lt q hq).1)
/-- What a function hands back that makes a slice of numbers and a code. -/
def RetInts (r : List Int × Int) (w : World) (e : Ending) (w' : World) : Prop :=
  ∃ A c, e = .returned (.tuple #[.slice A r.1.length c, .int .i64 r.2]) ∧ w'.ownsRow w.heap.size 2 1 (.slice A r.1.length c) r.1.length (ints r.1) ∧ Below w.heap.size w w'
theorem RetInts.mk {r : List Int × Int} {w w' : World} {A : Option Addr} {n c : Nat} {zs : List Int} {code : Int} (h : r = (zs, code)) (ho : w'.ownsRow w.heap.size 2 1 (.slice A n c) n (ints zs)) (hb : Below w.heap.size w w') :
    RetInts r w (.returned (.tuple #[.slice A n c, .int .i64 code])) w' := by
  subst h
  have hl := own_int_len ho
  subst hl
  exact ⟨A, c, rfl, ho, hb⟩
theorem RetInts.nil {r : List Int × Int} {w w' : World} {code : Int} (h : r = ([], code)) (hb : Below w.heap.size w w') :
    RetInts r w (.returned (.tuple #[.slice none 0 0, .int .i64 code])) w' := RetInts.mk h (World.ownsRow_nil _ _ _ _) hb
/-- A row kept behind a call that leaves all that was there. -/
theorem own_below {w w' : World} {base k n : Nat} {E : TypeId} {v : Value} {xs : List Value} (h : w.ownsRow base E k v n xs) (hb : Below w.heap.size w w') : w'.ownsRow base E k v n xs :=
  h.kept (row := none) ⟨hb.os, hb.tape, hb.output, hb.size, fun i hi _ => hb.block i hi⟩ (by cases v.ownBlock <;> simp)
theorem keep_own {w w' : World} {base k n : Nat} {E : TypeId} {v : Value} {xs : List Value} {row : Option Nat} (h : w.ownsRow base E k v n xs) (hg : w.grownBy w' row) (hd : ∀ g g', v.ownBlock = some g → row = some g' → g ≠ g') : w'.ownsRow base E k v n xs :=
  h.kept hg (by
    cases hv : v.ownBlock with
    | none => exact .inl rfl
    | some g => exact .inr fun e => hd g g hv e.symm rfl)
theorem dis_of {v v' : Value} {b e b' e' : Nat} (hX : Hid (∀ k, v.ownBlock = some k → b ≤ k ∧ k < e)) (hY : Hid (∀ k, v'.ownBlock = some k → b' ≤ k ∧ k < e')) (h : e ≤ b' ∨ e' ≤ b) :
    ∀ g g', v.ownBlock = some g → v'.ownBlock = some g' → g ≠ g' := fun g g' h1 h2 e => by
  have := hX.out g h1
  have := hY.out g' h2
  omega
theorem mark_below {W0 w1 w2 : World} {lo k n c : Nat} {E : TypeId} {A : Option Addr} {xs : List Value} (H : Below W0.heap.size W0 w1) (ho : w1.ownsRow lo E k (.slice A n c) n xs) (hlo : W0.heap.size ≤ lo)
    (hg : w1.grownBy w2 (Value.slice A n c).ownBlock) : Below W0.heap.size W0 w2 := H.grown hg H.size (fun q hq => Nat.le_trans hlo (ho.lt q hq).1)
theorem ownsRow_le' {w : World} {b b' k n : Nat} {E : TypeId} {v : Value} {xs : List Value} (h : w.ownsRow b E k v n xs) (hb : b' ≤ b) : w.ownsRow b' E k v n xs := by
  refine ⟨h.1, ?_⟩
  rcases h.2 with h2 | ⟨g, cap, cur, hv, hg, r⟩
  · exact .inl h2
  · exact .inr ⟨g, cap, cur, hv, Nat.le_trans hb hg, r⟩
end Go.Proofs.Ytgaahmcbfognhaa
