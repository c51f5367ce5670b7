/-
  Walks over slices of Fraction: copied, compared; each for every slice that reads as the given list.
-/
import Derived.Test.YtpmdgbdeibeoaaaFracL
import Derived.Test.YtpmdgbdeibeoaaaBlk2
import Derived.BigQuiet
import Derived.Deep.QuietTactic
import Derived.Deep.RegionHeld3
namespace Go.Proofs.Ytpmdgbdeibeoaaa
open Go.RowKit
set_option maxHeartbeats 1000000

theorem fracs_info : (Try.prog.info? 33).map (fun i => (i.zero, i.size, i.bytes)) = some (some (.agg #[.int .i64 0, .int .i64 0]), 2, 16) := by kernel_rfl
theorem fracs_zeros (n : Nat) : (madeCells #[.int .i64 0, .int .i64 0] (n * 2)).toList = fracs (List.replicate n FracD.zero) := by
  apply List.ext_getElem?
  intro j
  by_cases hj : j < n * 2
  · have hm : j % 2 = 0 ∨ j % 2 = 1 := by omega
    rcases hm with e | e
    · have ej : j = j / 2 * 2 := by omega
      have hk : j / 2 < n := by omega
      have hr : (fracs (List.replicate n FracD.zero))[j / 2 * 2]? = some (.int .i64 0) := by
        rw [fracs_get0 (by simpa using hk)]
        simp [fracsAt, List.getD_eq_getElem?_getD, hk, FracD.zero]
      rw [← ej] at hr
      rw [hr]
      simp [madeCells, hj, e]
    · have ej : j = j / 2 * 2 + 1 := by omega
      have hk : j / 2 < n := by omega
      have hr : (fracs (List.replicate n FracD.zero))[j / 2 * 2 + 1]? = some (.int .i64 0) := by
        rw [fracs_get1 (by simpa using hk)]
        simp [fracsAt, List.getD_eq_getElem?_getD, hk, FracD.zero]
      rw [← ej] at hr
      rw [hr]
      simp [madeCells, hj, e]
  · rw [List.getElem?_eq_none (by simp [madeCells]; omega), List.getElem?_eq_none (by rw [fracs_len]; simp; omega)]
theorem fracs_setAll {xs : List FracD} (x : FracD) : ∀ {k : Nat}, k < xs.length → ((fracs xs).set (k * 2) (.int .i64 x.n)).set (k * 2 + 1) (.int .i64 x.d) = fracs (xs.set k x) := by
  induction xs with
  | nil => intro k h; simp at h
  | cons y xs ih =>
    intro k h
    cases k with
    | zero => rfl
    | succ k =>
      have e0 : (k + 1) * 2 = y.cells.length + k * 2 := by simp [FracD.cells]; omega
      have e1 : y.cells.length + k * 2 + 1 = y.cells.length + (k * 2 + 1) := Nat.add_assoc _ _ _
      rw [fracs_cons, e0, List.set_append_right _ _ (by omega), Nat.add_sub_cancel_left, e1, List.set_append_right _ _ (by omega), Nat.add_sub_cancel_left, ih (by simpa using h)]
      rfl
/-- The first k elements agree. -/
def AgreeFrac (ys xs : List FracD) (k : Nat) : Prop := ∀ j, j < k → fracsAt ys j = fracsAt xs j
theorem AgreeFrac.step {ys xs : List FracD} {k : Nat} (h : AgreeFrac ys xs k) (hk : k < ys.length) : AgreeFrac (ys.set k (fracsAt xs k)) xs (k + 1) := fun j hj => by
  rw [fracsAt_set hk]
  by_cases e : j = k
  · subst e; simp
  · simp [e]; exact h j (by omega)
/-- A whole element stored. -/
theorem fracs_stored {W : World} {base g n c : Nat} {xs : List FracD} {k : Nat} (x : FracD) (ho : W.ownsRow base 33 2 (.slice (some ⟨g, 0, none⟩) n c) n (fracs xs)) (hk : k < n) :
    ((W.setCell ⟨g, k * 2, none⟩ (.int .i64 x.n)).setCell ⟨g, k * 2 + 1, none⟩ (.int .i64 x.d)).ownsRow base 33 2 (.slice (some ⟨g, 0, none⟩) n c) n (fracs (xs.set k x)) ∧ W.grownBy ((W.setCell ⟨g, k * 2, none⟩ (.int .i64 x.n)).setCell ⟨g, k * 2 + 1, none⟩ (.int .i64 x.d)) (some g) := by
  have hl := own_fracs_len ho
  have s0 := ho.stored (k * 2) (.int .i64 x.n)
  have s1 := s0.1.stored (k * 2 + 1) (.int .i64 x.d)
  refine ⟨?_, (gtrans s0.2 s1.2)⟩
  have h9 := s1.1
  rw [fracs_setAll x (by omega)] at h9
  exact h9
theorem eqFracV_same (a b : Int) (w : World) :
    Calls Try.prog 25 #[.agg #[.int .i64 a, .int .i64 b], .agg #[.int .i64 a, .int .i64 b]] w fun e w' => e = .returned (.bool true) ∧ Below w.heap.size w w' := by
  go_enter Try.func25, Try.ntmps25
  go_wp2
  go_returns
  refine ⟨rfl, ?_⟩
  go_grown
theorem eqFractionS_same (A A' : Option Addr) (n c c' : Nat) (xs : List FracD) (w : World) (h : Rd w 2 A n (fracs xs)) (h' : Rd w 2 A' n (fracs xs)) (hn : n ≤ 9223372036854775807) :
    Calls Try.prog 40 #[.slice A n c, .slice A' n c'] w fun e w' => e = .returned (.bool true) ∧ Below w.heap.size w w' := by
  go_enter Try.func40, Try.ntmps40
  go_wp2_with fail
  go_loopw [5] (fun i wr => ∃ k : Nat, k ≤ n ∧ i = .int .i64 k ∧ Below w.heap.size w wr) (fun i _ => n - (intOf i).toNat)
  case atStart => exact ⟨0, by omega, rfl, Below.refl _ _⟩
  case round =>
    obtain ⟨k, hk, rfl, hb⟩ := hrel
    by_cases hlt : k < n
    · obtain ⟨b, off, rfl, hbl, h0, h1⟩ := (h.below hb).fracs hlt
      obtain ⟨b', off', rfl, hbl', i0, i1⟩ := (h'.below hb).fracs hlt
      go_wp2_with fail
      go_region_held3 (fun wz => Below wr.heap.size wr wz ∧ ∀ b o, b < wr.heap.size → wz.cell? ⟨b, o, none⟩ = wr.cell? ⟨b, o, none⟩) ((refine old_of ?_; with_reducible first | assumption | exact Below.drew (Below.refl _ _))) ((go_at_call 25; (with_reducible refine (eqFracV_same _ _ _).mono ?_); rintro e w2 ⟨rfl, hb2⟩; have HZ := Bl.then (w := wr) (And.left (by assumption)) hb2))
      go_wp2_with fail
      go_roundw
      case rel => exact ⟨k + 1, by omega, by go_num, Bl.then hb HZ⟩
      case measure => simp [intOf]; omega
    · go_wp2_with fail
      go_ret
      exact ⟨rfl, hb⟩
section
variable {ops : Array Oper} {rest : List Oper} {o : Oper} {a : Act} {Q : Exit → Act → World → Prop}
/-- 'append(out, x)': the new element lies in a block laid just before. -/
theorem wpList_app_fracs (W : World) (hg : o.guard = none) (s x' : Operand) (ho : o.op = .call { callee := .builtin .append, args := #[s, x'], argTypes := #[51, 51] })
    (base : Nat) (A : Option Addr) (n c : Nat) (xs : List FracD) (x : FracD) (hs : a.eval s = .slice A n c) (hown : W.ownsRow base 33 2 (.slice A n c) n (fracs xs))
    (hx : a.eval x' = .slice (some ⟨W.heap.size, 0, none⟩) 1 1) (hbase : base ≤ W.heap.size) (hn : n ≤ 1048577)
    (h : ∀ A' c' w', w'.ownsRow base 33 2 (.slice A' (n + 1) c') (n + 1) (fracs (xs ++ [x])) → W.grownBy w' (Value.slice A n c).ownBlock → wpList Try.prog ops Q rest (a.put o.dst (.slice A' (n + 1) c')) w') :
    wpList Try.prog ops Q (o :: rest) a (W.alloc (.cells #[.int .i64 x.n, .int .i64 x.d] 33)) := by
  obtain ⟨i0, hi, hz0, hz1, hz2⟩ := info_parts fracs_info
  refine wpList_append_own _ hg s x' 51 ho base 33 i0 _ 2 16 Try.underlying51 hi hz0 hz1 hz2 rfl (by decide) _ _ _ hs (hown.alloc _) ⟨W.heap.size, 0, none⟩ 1 1 x.cells hx rfl ?_ ?_ ?_ ?_ ?_ ?_
  · intro j u hu
    have hb := (Blk.new W 33 #[.int .i64 x.n, .int .i64 x.d]).cell j
    rw [List.getElem?_toArray] at hb
    simp only [FracD.cells] at hu
    rw [hu] at hb
    rw [Addr.add_lit, Nat.zero_add]
    exact hb
  · intro u hu
    simp only [FracD.cells, List.mem_cons, List.not_mem_nil, or_false] at hu
    rcases hu with rfl | rfl <;> rfl
  · unfold maxLen; omega
  · omega
  · simp; omega
  · intro v' w' hown' hg' _
    have hex : ∃ A' c', v' = .slice A' (n + 1) c' := by
      rcases hown'.2 with ⟨_, h0⟩ | ⟨g, cap, cur, hv, _⟩
      · omega
      · exact ⟨_, _, hv⟩
    obtain ⟨A', c', hv⟩ := hex
    rw [hv] at hown' ⊢
    refine h A' c' w' ?_ (gtrans (World.grownBy_alloc W _ _) hg')
    rw [fracs_append]
    simpa [fracs] using hown'
end
/-- The first k elements are the marks from m on. -/
def MarksFrac (ys : List FracD) (m : Int) (k : Nat) : Prop := ∀ j, j < k → fracsAt ys j = ⟨m + 2 * (j : Int), m + 2 * (j : Int) + 1⟩
theorem MarksFrac.step {ys : List FracD} {m : Int} {k : Nat} {x : FracD} (h : MarksFrac ys m k) (hk : k < ys.length) (h0 : x.n = m + 2 * (k : Int)) (h1 : x.d = m + 2 * (k : Int) + 1) : MarksFrac (ys.set k x) m (k + 1) := fun j hj => by
  rw [fracsAt_set hk]
  by_cases e : j = k
  · subst e
    rw [if_pos rfl]
    obtain ⟨x0, x1⟩ := x
    simp only at h0 h1
    subst h0 h1
    rfl
  · rw [if_neg e]; exact h j (by omega)
theorem markFractionS_any (base : Nat) (A : Option Addr) (n c : Nat) (xs : List FracD) (m : Int) (w : World) (h : w.ownsRow base 33 2 (.slice A n c) n (fracs xs)) (hn : n ≤ 1048577) (hm : 0 ≤ m ∧ m ≤ 100000000) :
    Calls Try.prog 41 #[.slice A n c, .int .i64 m] w fun e w' => e = .returned (.int .i64 (m + 2 * n)) ∧ ∃ ys, MarksFrac ys m n ∧ w'.ownsRow base 33 2 (.slice A n c) n (fracs ys) ∧ w.grownBy w' (Value.slice A n c).ownBlock := by
  obtain ⟨hm1, hm2⟩ := hm
  rcases Nat.eq_zero_or_pos n with h0 | h0
  · subst h0
    have hz : xs = [] := List.eq_nil_of_length_eq_zero (own_fracs_len h)
    subst hz
    go_enter Try.func41, Try.ntmps41
    go_wp2_with fail
    refine wp_loop_rounds 1 ?_
    rw [rounds_succ]
    go_wp2_with fail
    go_ret
    exact ⟨by simp, [], fun j hj => by omega, h, World.grownBy.refl _ _⟩
  obtain ⟨g, rfl, hb, hlt, hnc, hcm⟩ := own_form h h0
  go_enter Try.func41, Try.ntmps41
  go_wp2_with fail
  go_loopw [1, 5] (fun q i wr => ∃ (k : Nat) (ys : List FracD), wr.ownsRow base 33 2 (.slice (some ⟨g, 0, none⟩) n c) n (fracs ys) ∧ k ≤ n ∧ i = .int .i64 k ∧ q = .int .i64 (m + 2 * k) ∧ w.grownBy wr (some g) ∧ MarksFrac ys m k) (fun _ i _ => n - (intOf i).toNat)
  case atStart => exact ⟨0, xs, h, by omega, rfl, by simp, World.grownBy.refl _ _, fun j hj => by omega⟩
  case round =>
    obtain ⟨k, ys, ho, hk, rfl, rfl, hg, hma⟩ := hrel
    have hyl := Lib.hid (own_fracs_len ho)
    by_cases hlt : k < n
    · have k0 := ho.cellAt (k * 2) (by omega)
      rw [fracs_get0 (by rw [hyl.out]; exact hlt)] at k0
      have k1 := ho.cellAt (k * 2 + 1) (by omega)
      rw [fracs_get1 (by rw [hyl.out]; exact hlt)] at k1
      have hfr := ho.frozenAt
      go_wp2_with fail
      go_roundw
      case rel =>
        have hst := fun x => fracs_stored (k := k) x ho hlt
        refine ⟨k + 1, _, (hst ⟨_, _⟩).1, by omega, by go_num, congrArg (Value.int .i64) (by omega), gtrans hg (hst ⟨_, _⟩).2, hma.step (by rw [hyl.out]; exact hlt) (by first | rfl | (dsimp only; omega)) (by first | rfl | (dsimp only; omega))⟩
      case measure => simp [intOf]; omega
    · obtain rfl : k = n := by omega
      go_wp2_with fail
      go_ret
      exact ⟨rfl, ys, hma, ho, hg⟩
theorem heldFractionS_any (A : Option Addr) (n c : Nat) (ys : List FracD) (m : Int) (w : World) (h : Rd w 2 A n (fracs ys)) (hma : MarksFrac ys m n) (hn : n ≤ 1048577) (hm : 0 ≤ m ∧ m ≤ 100000000) :
    Calls Try.prog 42 #[.slice A n c, .int .i64 m] w fun e w' => e = .returned (.int .i64 (m + 2 * n)) ∧ Below w.heap.size w w' := by
  obtain ⟨hm1, hm2⟩ := hm
  go_enter Try.func42, Try.ntmps42
  go_wp2_with fail
  go_loopw [1, 5] (fun q i wr => ∃ (k : Nat), k ≤ n ∧ i = .int .i64 k ∧ q = .int .i64 (m + 2 * k) ∧ Below w.heap.size w wr) (fun _ i _ => n - (intOf i).toNat)
  case atStart => exact ⟨0, by omega, rfl, by simp, Below.refl _ _⟩
  case round =>
    obtain ⟨k, hk, rfl, rfl, HB⟩ := hrel
    by_cases hlt : k < n
    · obtain ⟨b, off, rfl, hbl, h0, h1⟩ := (h.below HB).fracs hlt
      rw [hma k hlt] at h0 h1
      go_wp2_with fail
      go_roundw
      case rel => exact ⟨k + 1, by omega, by go_num, congrArg (Value.int .i64) (by omega), HB⟩
      case measure => simp [intOf]; omega
    · obtain rfl : k = n := by omega
      go_wp2_with fail
      go_ret
      exact ⟨rfl, HB⟩
end Go.Proofs.Ytpmdgbdeibeoaaa
