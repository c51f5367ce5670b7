/-
  Rows of builds (price, layers, known): as lists of entries; slices.Grow and slices.Concat at numbers. The conditions: sizes that fit.
-/
import Derived.Test.YtgaahmcbfognhaaBldP
import Derived.Test.YtgaahmcbfognhaaCnt
import Derived.Laws.AppendOwnNone
import Derived.Lib.AppendZeros
import Derived.Lib.SliceRun
namespace Go.Proofs.Ytgaahmcbfognhaa
open Go.RowKit
set_option maxHeartbeats 1600000
set_option linter.unusedVariables false

structure BldD where
  p : Int
  A : Option Addr
  n : Nat
  c : Nat
  k : Bool
def BldD.zero : BldD := ⟨0, none, 0, 0, false⟩
def BldD.cells (x : BldD) : List Value := [.int .i64 x.p, .slice x.A x.n x.c, .bool x.k]
def blds (xs : List BldD) : List Value := xs.flatMap BldD.cells
def bAt (xs : List BldD) (k : Nat) : BldD := xs.getD k BldD.zero
theorem blds_cons (x : BldD) (xs : List BldD) : blds (x :: xs) = x.cells ++ blds xs := rfl
theorem blds_len (xs : List BldD) : (blds xs).length = xs.length * 3 := by
  induction xs with
  | nil => rfl
  | cons x xs ih => rw [blds_cons, List.length_append, ih]; simp [BldD.cells]; omega
theorem blds_eq {xs : List BldD} {k : Nat} (h : k < xs.length) : xs[k] = bAt xs k := by unfold bAt; rw [List.getD_eq_getElem?_getD, List.getElem?_eq_getElem h]; rfl
theorem blds_get0 {xs : List BldD} : ∀ {k : Nat}, k < xs.length → (blds xs)[k * 3]? = some (.int .i64 (bAt xs k).p) := by
  induction xs with
  | nil => intro k h; simp at h
  | cons x xs ih =>
    intro k h
    cases k with
    | zero => rfl
    | succ k =>
      have e : (k + 1) * 3 = x.cells.length + (k * 3) := by simp [BldD.cells]; omega
      rw [blds_cons, e, List.getElem?_append_right (by omega), Nat.add_sub_cancel_left, ih (by simpa using h)]
      rfl
theorem blds_get1 {xs : List BldD} : ∀ {k : Nat}, k < xs.length → (blds xs)[k * 3 + 1]? = some (.slice (bAt xs k).A (bAt xs k).n (bAt xs k).c) := by
  induction xs with
  | nil => intro k h; simp at h
  | cons x xs ih =>
    intro k h
    cases k with
    | zero => rfl
    | succ k =>
      have e : (k + 1) * 3 + 1 = x.cells.length + (k * 3 + 1) := by simp [BldD.cells]; omega
      rw [blds_cons, e, List.getElem?_append_right (by omega), Nat.add_sub_cancel_left, ih (by simpa using h)]
      rfl
theorem blds_get2 {xs : List BldD} : ∀ {k : Nat}, k < xs.length → (blds xs)[k * 3 + 2]? = some (.bool (bAt xs k).k) := by
  induction xs with
  | nil => intro k h; simp at h
  | cons x xs ih =>
    intro k h
    cases k with
    | zero => rfl
    | succ k =>
      have e : (k + 1) * 3 + 2 = x.cells.length + (k * 3 + 2) := by simp [BldD.cells]; omega
      rw [blds_cons, e, List.getElem?_append_right (by omega), Nat.add_sub_cancel_left, ih (by simpa using h)]
      rfl
theorem bAt_set {xs : List BldD} {k j : Nat} {x : BldD} (hk : k < xs.length) : bAt (xs.set k x) j = if j = k then x else bAt xs j := by
  unfold bAt
  rw [List.getD_eq_getElem?_getD, List.getD_eq_getElem?_getD, List.getElem?_set]
  by_cases h : j = k
  · subst h; simp [hk]
  · have h' : ¬ k = j := fun e => h e.symm
    simp [h, h']
theorem own_blds_len {w : World} {base : Nat} {E : TypeId} {v : Value} {n : Nat} {xs : List BldD} (h : w.ownsRow base E 3 v n (blds xs)) : xs.length = n := by have := h.1; rw [blds_len] at this; omega
theorem blds_setAll {xs : List BldD} (x : BldD) : ∀ {k : Nat}, k < xs.length → (((blds xs).set (k * 3) (.int .i64 x.p)).set (k * 3 + 1) (.slice x.A x.n x.c)).set (k * 3 + 2) (.bool x.k) = blds (xs.set k x) := by
  induction xs with
  | nil => intro k h; simp at h
  | cons y xs ih =>
    intro k h
    cases k with
    | zero => rfl
    | succ k =>
      have e0 : (k + 1) * 3 = y.cells.length + k * 3 := by simp [BldD.cells]; omega
      have e1 : y.cells.length + k * 3 + 1 = y.cells.length + (k * 3 + 1) := Nat.add_assoc _ _ _
      have e2 : y.cells.length + k * 3 + 2 = y.cells.length + (k * 3 + 2) := Nat.add_assoc _ _ _
      rw [blds_cons, e0, List.set_append_right _ _ (by omega), Nat.add_sub_cancel_left, e1, List.set_append_right _ _ (by omega), Nat.add_sub_cancel_left, e2, List.set_append_right _ _ (by omega), Nat.add_sub_cancel_left, ih (by simpa using h)]
      rfl
theorem blds_stored {W : World} {base g n c : Nat} {E : TypeId} {xs : List BldD} {k : Nat} (x : BldD) (ho : W.ownsRow base E 3 (.slice (some ⟨g, 0, none⟩) n c) n (blds xs)) (hk : k < n) :
    (((W.setCell ⟨g, k * 3, none⟩ (.int .i64 x.p)).setCell ⟨g, k * 3 + 1, none⟩ (.slice x.A x.n x.c)).setCell ⟨g, k * 3 + 2, none⟩ (.bool x.k)).ownsRow base E 3 (.slice (some ⟨g, 0, none⟩) n c) n (blds (xs.set k x)) ∧ W.grownBy (((W.setCell ⟨g, k * 3, none⟩ (.int .i64 x.p)).setCell ⟨g, k * 3 + 1, none⟩ (.slice x.A x.n x.c)).setCell ⟨g, k * 3 + 2, none⟩ (.bool x.k)) (some g) := by
  have hl := own_blds_len ho
  have s0 := ho.stored (k * 3) (.int .i64 x.p)
  have s1 := s0.1.stored (k * 3 + 1) (.slice x.A x.n x.c)
  have s2 := s1.1.stored (k * 3 + 2) (.bool x.k)
  refine ⟨?_, gtrans (gtrans s0.2 s1.2) s2.2⟩
  have h9 := s2.1
  rw [blds_setAll x (by omega)] at h9
  exact h9
theorem blds_info : (Try.prog.info? 40).map (fun i => (i.zero, i.size, i.bytes)) = some (some (.agg #[.int .i64 0, .slice none 0 0, .bool false]), 3, 40) := by kernel_rfl
theorem blds_zeros (n : Nat) : (madeCells #[.int .i64 0, .slice none 0 0, .bool false] (n * 3)).toList = blds (List.replicate n BldD.zero) := by
  apply List.ext_getElem?
  intro j
  by_cases hj : j < n * 3
  · have hm : j % 3 = 0 ∨ j % 3 = 1 ∨ j % 3 = 2 := by omega
    rcases hm with e | e | e
    · have ej : j = j / 3 * 3 := by omega
      have hk : j / 3 < n := by omega
      have hr : (blds (List.replicate n BldD.zero))[j / 3 * 3]? = some (.int .i64 0) := by
        rw [blds_get0 (by simpa using hk)]
        simp [bAt, List.getD_eq_getElem?_getD, hk, BldD.zero]
      rw [← ej] at hr
      rw [hr]
      simp [madeCells, hj, e]
    · have ej : j = j / 3 * 3 + 1 := by omega
      have hk : j / 3 < n := by omega
      have hr : (blds (List.replicate n BldD.zero))[j / 3 * 3 + 1]? = some (.slice none 0 0) := by
        rw [blds_get1 (by simpa using hk)]
        simp [bAt, List.getD_eq_getElem?_getD, hk, BldD.zero]
      rw [← ej] at hr
      rw [hr]
      simp [madeCells, hj, e]
    · have ej : j = j / 3 * 3 + 2 := by omega
      have hk : j / 3 < n := by omega
      have hr : (blds (List.replicate n BldD.zero))[j / 3 * 3 + 2]? = some (.bool false) := by
        rw [blds_get2 (by simpa using hk)]
        simp [bAt, List.getD_eq_getElem?_getD, hk, BldD.zero]
      rw [← ej] at hr
      rw [hr]
      simp [madeCells, hj, e]
  · rw [List.getElem?_eq_none (by simp [madeCells]; omega), List.getElem?_eq_none (by rw [blds_len]; simp; omega)]
set_option maxRecDepth 100000 in
theorem Grow_nil (n : Nat) (h0 : 0 < n) (hn : n ≤ 1048577) (w : World) :
    Calls Try.prog 39 #[.slice none 0 0, .int .i64 n] w fun e w' => ∃ c, e = .returned (.slice (some ⟨w.heap.size, 0, none⟩) 0 c) ∧ w'.ownsRow w.heap.size 2 1 (.slice (some ⟨w.heap.size, 0, none⟩) 0 c) 0 (ints []) ∧ Below w.heap.size w w' := by
  obtain ⟨i0, hi, hz0, hz1, hz2⟩ := info_parts int_info
  have hrz := fun ty => Lib.run_append_nil_zeros (P := Try.prog) w 22 3 ty 2 i0 _ .i64 .i64 Try.underlying22 Try.underlying3 hi hz0 n h0 (by rw [hz1]; decide) (by omega) (by rw [hz2]; omega)
  have hGn : n ≤ grownCap w n 0 2 := grownCap_ge w _ _ _
  have hGm : grownCap w n 0 2 ≤ maxLen := grownCap_le_maxLen w _ _ _ (by unfold maxLen; omega)
  obtain ⟨G, hG⟩ : ∃ G, G = grownCap w n 0 2 := ⟨_, rfl⟩
  rw [← hG] at hrz hGn hGm
  clear hG hi hz0 hz1 hz2
  have hnn : ¬ ((n : Int) < 0) := by omega
  have hn0 : (0 : Int) < n := by omega
  have hown : (w.drew.alloc (.cells (Builtin.zeroCells (Value.int .i64 0).cells n ++ Builtin.zeroCells (Value.int .i64 0).cells (G - n)) 2)).ownsRow w.heap.size 2 1 (.slice (some ⟨w.heap.size, 0, none⟩) 0 G) 0 (ints []) := by
    refine ⟨rfl, .inr ⟨w.heap.size, G, _, rfl, Nat.le_refl _, heap_alloc_new w.drew _, Nat.zero_le _, hGm, ?_, by simp [ints]⟩⟩
    rw [show (Value.int .i64 0).cells = #[.int .i64 0] from rfl]
    simp [Builtin.zeroCells]; omega
  have hB : Below w.heap.size w (w.drew.alloc (.cells (Builtin.zeroCells (Value.int .i64 0).cells n ++ Builtin.zeroCells (Value.int .i64 0).cells (G - n)) 2)) := Bl.alloc (Below.refl _ _).drew _
  generalize w.drew.alloc (.cells (Builtin.zeroCells (Value.int .i64 0).cells n ++ Builtin.zeroCells (Value.int .i64 0).cells (G - n)) 2) = w1 at *
  unfold maxLen at hGm
  go_enter Try.func39, Try.ntmps39
  go_wp2_with (at_builtin; refine Lib.wpList_append_run _ rfl _ _ _ _ rfl _ _ rfl rfl _ _ (hrz _) ?_)
  all_goals
    go_ret
    exact ⟨G, rfl, hown, hB⟩
section
variable {ops : Array Oper} {rest : List Oper} {o : Oper} {a : Act} {Q : Exit → Act → World → Prop}
/-- 'append(out, xs...)' of a row of numbers. -/
theorem wpList_cat_ints (W : World) (hg : o.guard = none) (s x' : Operand) (ho : o.op = .call { callee := .builtin .append, args := #[s, x'], argTypes := #[22, 22] })
    (base g n c : Nat) (xs : List Int) (hs : a.eval s = .slice (some ⟨g, 0, none⟩) n c) (hown : W.ownsRow base 2 1 (.slice (some ⟨g, 0, none⟩) n c) n (ints xs))
    (A : Option Addr) (m c2 : Nat) (ys : List Int) (hx : a.eval x' = .slice A m c2) (b2 : Nat) (hR : W.ownsRow b2 2 1 (.slice A m c2) m (ints ys)) (hbase : base ≤ W.heap.size) (hn : n + m ≤ 1048577)
    (h : ∀ g' c' w', w'.ownsRow base 2 1 (.slice (some ⟨g', 0, none⟩) (n + m) c') (n + m) (ints (xs ++ ys)) → W.grownBy w' (some g) → wpList Try.prog ops Q rest (a.put o.dst (.slice (some ⟨g', 0, none⟩) (n + m) c')) w') :
    wpList Try.prog ops Q (o :: rest) a W := by
  obtain ⟨i0, hi, hz0, hz1, hz2⟩ := info_parts int_info
  rcases hR.2 with ⟨hv, h0⟩ | ⟨gy, cap, cur, hv, _⟩
  · obtain ⟨rfl, rfl, rfl⟩ : A = none ∧ m = 0 ∧ c2 = 0 := by simpa using hv
    have hys : ys = [] := List.eq_nil_of_length_eq_zero (own_int_len hR)
    subst hys
    refine wpList_append_own_none hg _ _ 22 ho base 2 i0 1 Try.underlying22 hi _ _ _ hs hown hx ?_
    exact h g c W (by simpa using hown) (World.grownBy.refl _ _)
  · obtain ⟨rfl, rfl⟩ : A = some ⟨gy, 0, none⟩ ∧ c2 = cap := by simpa using hv
    refine wpList_append_own _ hg s x' 22 ho base 2 i0 (.int .i64 0) 1 8 Try.underlying22 hi hz0 hz1 hz2 rfl (by decide) _ _ _ hs hown ⟨gy, 0, none⟩ m c2 (ints ys) hx (by rw [hR.1]) ?_ ?_ ?_ ?_ hbase ?_
    · exact hR.cells rfl
    · intro u hu
      simp only [ints, List.mem_map] at hu
      obtain ⟨z, _, rfl⟩ := hu
      rfl
    · unfold maxLen; omega
    · omega
    · intro v' w' hown' hg' hiff
      have hex : ∃ g' c', v' = .slice (some ⟨g', 0, none⟩) (n + m) c' := by
        rcases hown'.2 with ⟨hv', _⟩ | ⟨g', cap', cur', hv', _⟩
        · exact absurd (hiff.1 hv').1 (by simp)
        · exact ⟨_, _, hv'⟩
      obtain ⟨g', c', hv'⟩ := hex
      rw [hv'] at hown' ⊢
      refine h g' c' w' ?_ hg'
      rw [ints_append]
      exact hown'
end
set_option maxRecDepth 100000 in
theorem Concat_two (b1 g2 : Nat) (z : Int) (A : Option Addr) (n c B : Nat) (zs : List Int) (w : World) (h1 : Blk w b1 2 #[.int .i64 z]) (h2 : w.ownsRow B 2 1 (.slice A n c) n (ints zs)) (hn : n ≤ 1000) (hB : Blk w g2 22 #[.slice (some ⟨b1, 0, none⟩) 1 1, .slice A n c]) :
    Calls Try.prog 32 #[.slice (some ⟨g2, 0, none⟩) 2 2] w fun e w' => ∃ g c', e = .returned (.slice (some ⟨g, 0, none⟩) (n + 1) c') ∧ w'.ownsRow w.heap.size 2 1 (.slice (some ⟨g, 0, none⟩) (n + 1) c') (n + 1) (ints (z :: zs)) ∧ Below w.heap.size w w' := by
  have c0 : w.cell? ⟨g2, 0, none⟩ = some (.slice (some ⟨b1, 0, none⟩) 1 1) := hB.cell 0
  have c1 : w.cell? ⟨g2, 1, none⟩ = some (.slice A n c) := hB.cell 1
  have O1 : w.ownsRow b1 2 1 (.slice (some ⟨b1, 0, none⟩) 1 1) 1 (ints [z]) := ⟨rfl, .inr ⟨b1, 1, #[.int .i64 z], rfl, Nat.le_refl _, h1, Nat.le_refl _, by decide, rfl, rfl⟩⟩
  have hw1 : IntKind.i64.wrap ((1 : Int) + n) = ((n + 1 : Nat) : Int) := by rw [IntWalk.i64_in _ (by omega)]; omega
  have hnn : ¬ (((n + 1 : Nat) : Int) < 0) := by omega
  go_enter Try.func32, Try.ntmps32
  go_wp2_with fail
  go_loopw [3, 11] (fun s i wr => ∃ k : Nat, k ≤ 2 ∧ i = .int .i64 k ∧ s = .int .i64 ((if k = 0 then 0 else if k = 1 then 1 else n + 1 : Nat) : Int) ∧ wr = w) (fun _ i _ => 2 - (intOf i).toNat)
  case atStart => exact ⟨0, by omega, rfl, rfl, rfl⟩
  case round =>
    obtain ⟨k, hk, rfl, rfl, hw⟩ := hrel
    subst wr
    rcases (show k = 0 ∨ k = 1 ∨ k = 2 by omega) with rfl | rfl | rfl
    · go_wp2_with fail
      go_roundw
      case rel => exact ⟨1, by omega, rfl, rfl, by first | rfl | trivial⟩
      case measure => simp [intOf]
    · simp only [Nat.one_ne_zero, if_false, if_true] at *
      go_wp2_with fail
      go_roundw
      case rel => exact ⟨2, by omega, rfl, by first | rfl | (simp; done) | (congr 1), by first | rfl | trivial⟩
      case measure => simp [intOf]
    · have hc2 : ((if (2 : Nat) = 0 then 0 else if (2 : Nat) = 1 then 1 else n + 1 : Nat) : Int) = ((n + 1 : Nat) : Int) := rfl
      rw [hc2]
      go_wp2_with fail
      refine (Grow_nil (n + 1) (by omega) (by omega) _).mono ?_
      rintro e w2 ⟨c3, rfl, o2, hb2⟩
      have hBW := hB
      have O1W := O1
      have h2W := h2
      clear c0 c1 h1 hB O1 h2
      go_wp2_with fail
      go_loopw [6, 27] (fun s i wr => ∃ (k L g c' : Nat) (ys : List Int), k ≤ 2 ∧ i = .int .i64 k ∧ s = .slice (some ⟨g, 0, none⟩) L c' ∧ ((k = 0 ∧ L = 0 ∧ ys = []) ∨ (k = 1 ∧ L = 1 ∧ ys = [z]) ∨ (k = 2 ∧ L = n + 1 ∧ ys = z :: zs)) ∧ wr.ownsRow w.heap.size 2 1 (.slice (some ⟨g, 0, none⟩) L c') L (ints ys) ∧ Below w.heap.size w wr) (fun _ i _ => 2 - (intOf i).toNat)
      case atStart => exact ⟨0, 0, w.heap.size, c3, [], by omega, rfl, rfl, .inl ⟨rfl, rfl, rfl⟩, o2, hb2⟩
      case round =>
        obtain ⟨k, L, g, c', ys, hk, rfl, rfl, hor, o3, hb3⟩ := hrel
        have hsz := hb3.size
        have BB := hBW.below hb3
        have O1q := own_below O1W hb3
        have h2q := own_below h2W hb3
        have q0 : wr.cell? ⟨g2, 0, none⟩ = some (.slice (some ⟨b1, 0, none⟩) 1 1) := BB.cell 0
        have q1 : wr.cell? ⟨g2, 1, none⟩ = some (.slice A n c) := BB.cell 1
        have lq := BB.lt
        rcases hor with ⟨rfl, rfl, rfl⟩ | ⟨rfl, rfl, rfl⟩ | ⟨rfl, rfl, rfl⟩
        · go_wp2_with (at_builtin; refine wpList_cat_ints wr rfl _ _ rfl w.heap.size g 0 c' [] rfl o3 _ 1 1 [z] rfl b1 O1q hsz (by omega) ?_; intro g6 c6 w6 o6 hg6)
          go_roundw
          case rel => exact ⟨1, 1, g6, c6, [z], by omega, rfl, rfl, .inr (.inl ⟨rfl, rfl, rfl⟩), o6, app_below o3 hb3 (Nat.le_refl _) hsz hg6⟩
          case measure => simp [intOf]
        · go_wp2_with (at_builtin; refine wpList_cat_ints wr rfl _ _ rfl w.heap.size g 1 c' [z] rfl o3 A n c zs rfl B h2q hsz (by omega) ?_; intro g6 c6 w6 o6 hg6)
          go_roundw
          case rel => exact ⟨2, n + 1, g6, c6, z :: zs, by omega, rfl, by rw [Nat.add_comm], .inr (.inr ⟨rfl, rfl, rfl⟩), by rw [Nat.add_comm n 1]; exact o6, app_below o3 hb3 (Nat.le_refl _) hsz hg6⟩
          case measure => simp [intOf]
        · go_wp2_with fail
          go_ret
          exact ⟨g, c', rfl, o3, hb3⟩
end Go.Proofs.Ytgaahmcbfognhaa
