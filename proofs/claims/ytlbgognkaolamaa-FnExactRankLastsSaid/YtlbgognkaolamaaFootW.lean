/-
  Walks over slices of Foot: copied, compared; each for every slice that reads as the given list.
-/
import Derived.Test.YtlbgognkaolamaaFootL
import Derived.Test.YtlbgognkaolamaaBlk2
import Derived.BigQuiet
import Derived.Deep.QuietTactic
import Derived.Deep.RegionHeld3
namespace Go.Proofs.Ytlbgognkaolamaa
open Go.RowKit
set_option maxHeartbeats 1000000

theorem feet_info : (Try.prog.info? 25).map (fun i => (i.zero, i.size, i.bytes)) = some (some (.agg #[.int .i64 0, .int .i64 0, .int .i64 0, .int .i64 0]), 4, 32) := by kernel_rfl
theorem feet_zeros (n : Nat) : (madeCells #[.int .i64 0, .int .i64 0, .int .i64 0, .int .i64 0] (n * 4)).toList = feet (List.replicate n FootD.zero) := by
  apply List.ext_getElem?
  intro j
  by_cases hj : j < n * 4
  · have hm : j % 4 = 0 ∨ j % 4 = 1 ∨ j % 4 = 2 ∨ j % 4 = 3 := by omega
    rcases hm with e | e | e | e
    · have ej : j = j / 4 * 4 := by omega
      have hk : j / 4 < n := by omega
      have hr : (feet (List.replicate n FootD.zero))[j / 4 * 4]? = some (.int .i64 0) := by
        rw [feet_get0 (by simpa using hk)]
        simp [feetAt, List.getD_eq_getElem?_getD, hk, FootD.zero]
      rw [← ej] at hr
      rw [hr]
      simp [madeCells, hj, e]
    · have ej : j = j / 4 * 4 + 1 := by omega
      have hk : j / 4 < n := by omega
      have hr : (feet (List.replicate n FootD.zero))[j / 4 * 4 + 1]? = some (.int .i64 0) := by
        rw [feet_get1 (by simpa using hk)]
        simp [feetAt, List.getD_eq_getElem?_getD, hk, FootD.zero]
      rw [← ej] at hr
      rw [hr]
      simp [madeCells, hj, e]
    · have ej : j = j / 4 * 4 + 2 := by omega
      have hk : j / 4 < n := by omega
      have hr : (feet (List.replicate n FootD.zero))[j / 4 * 4 + 2]? = some (.int .i64 0) := by
        rw [feet_get2 (by simpa using hk)]
        simp [feetAt, List.getD_eq_getElem?_getD, hk, FootD.zero]
      rw [← ej] at hr
      rw [hr]
      simp [madeCells, hj, e]
    · have ej : j = j / 4 * 4 + 3 := by omega
      have hk : j / 4 < n := by omega
      have hr : (feet (List.replicate n FootD.zero))[j / 4 * 4 + 3]? = some (.int .i64 0) := by
        rw [feet_get3 (by simpa using hk)]
        simp [feetAt, List.getD_eq_getElem?_getD, hk, FootD.zero]
      rw [← ej] at hr
      rw [hr]
      simp [madeCells, hj, e]
  · rw [List.getElem?_eq_none (by simp [madeCells]; omega), List.getElem?_eq_none (by rw [feet_len]; simp; omega)]
theorem feet_setAll {xs : List FootD} (x : FootD) : ∀ {k : Nat}, k < xs.length → ((((feet xs).set (k * 4) (.int .i64 x.l)).set (k * 4 + 1) (.int .i64 x.b)).set (k * 4 + 2) (.int .i64 x.i)).set (k * 4 + 3) (.int .i64 x.h) = feet (xs.set k x) := by
  induction xs with
  | nil => intro k h; simp at h
  | cons y xs ih =>
    intro k h
    cases k with
    | zero => rfl
    | succ k =>
      have e0 : (k + 1) * 4 = y.cells.length + k * 4 := by simp [FootD.cells]; omega
      have e1 : y.cells.length + k * 4 + 1 = y.cells.length + (k * 4 + 1) := Nat.add_assoc _ _ _
      have e2 : y.cells.length + k * 4 + 2 = y.cells.length + (k * 4 + 2) := Nat.add_assoc _ _ _
      have e3 : y.cells.length + k * 4 + 3 = y.cells.length + (k * 4 + 3) := Nat.add_assoc _ _ _
      rw [feet_cons, e0, List.set_append_right _ _ (by omega), Nat.add_sub_cancel_left, e1, List.set_append_right _ _ (by omega), Nat.add_sub_cancel_left, e2, List.set_append_right _ _ (by omega), Nat.add_sub_cancel_left, e3, List.set_append_right _ _ (by omega), Nat.add_sub_cancel_left, ih (by simpa using h)]
      rfl
/-- The first k elements agree. -/
def AgreeFoot (ys xs : List FootD) (k : Nat) : Prop := ∀ j, j < k → feetAt ys j = feetAt xs j
theorem AgreeFoot.step {ys xs : List FootD} {k : Nat} (h : AgreeFoot ys xs k) (hk : k < ys.length) : AgreeFoot (ys.set k (feetAt xs k)) xs (k + 1) := fun j hj => by
  rw [feetAt_set hk]
  by_cases e : j = k
  · subst e; simp
  · simp [e]; exact h j (by omega)
/-- A whole element stored. -/
theorem feet_stored {W : World} {base g n c : Nat} {xs : List FootD} {k : Nat} (x : FootD) (ho : W.ownsRow base 25 4 (.slice (some ⟨g, 0, none⟩) n c) n (feet xs)) (hk : k < n) :
    ((((W.setCell ⟨g, k * 4, none⟩ (.int .i64 x.l)).setCell ⟨g, k * 4 + 1, none⟩ (.int .i64 x.b)).setCell ⟨g, k * 4 + 2, none⟩ (.int .i64 x.i)).setCell ⟨g, k * 4 + 3, none⟩ (.int .i64 x.h)).ownsRow base 25 4 (.slice (some ⟨g, 0, none⟩) n c) n (feet (xs.set k x)) ∧ W.grownBy ((((W.setCell ⟨g, k * 4, none⟩ (.int .i64 x.l)).setCell ⟨g, k * 4 + 1, none⟩ (.int .i64 x.b)).setCell ⟨g, k * 4 + 2, none⟩ (.int .i64 x.i)).setCell ⟨g, k * 4 + 3, none⟩ (.int .i64 x.h)) (some g) := by
  have hl := own_feet_len ho
  have s0 := ho.stored (k * 4) (.int .i64 x.l)
  have s1 := s0.1.stored (k * 4 + 1) (.int .i64 x.b)
  have s2 := s1.1.stored (k * 4 + 2) (.int .i64 x.i)
  have s3 := s2.1.stored (k * 4 + 3) (.int .i64 x.h)
  refine ⟨?_, (gtrans (gtrans (gtrans s0.2 s1.2) s2.2) s3.2)⟩
  have h9 := s3.1
  rw [feet_setAll x (by omega)] at h9
  exact h9
theorem toFootS_any (A : Option Addr) (n c : Nat) (xs : List FootD) (w : World) (h : Rd w 4 A n (feet xs)) (hn : n ≤ 1048576) :
    Calls Try.prog 15 #[.slice A n c] w (RetSl 25 4 n (feet xs) w) := by
  obtain ⟨i0, hi, hz0, hz1, hz2⟩ := info_parts feet_info
  have hlen := Lib.hid h.feet_length
  go_enter Try.func15, Try.ntmps15
  go_wp2_with (at_make; refine wpList_make_full _ rfl _ _ 28 rfl w.heap.size 25 i0 _ 4 Try.underlying28 hi hz0 hz1 _ _ _ _ n rfl rfl rfl rfl (by rw [hz2]; omega) (by unfold maxLen; omega) (Nat.le_refl _) ?_)
  intro w1 hown hg
  have HO : w1.ownsRow w.heap.size 25 4 (.slice (some ⟨w.heap.size, 0, none⟩) n n) n (feet (List.replicate n FootD.zero)) := by
    have e := feet_zeros n
    rw [e] at hown
    exact hown
  have HB : Below w.heap.size w w1 := (Below.refl _ _).grown hg (Nat.le_refl _) (fun k hk => by cases hk)
  clear hown hg hz0 hz1 hz2 hi
  go_wp2_with fail
  go_loopw [4] (fun i wr => ∃ (k : Nat) (ys : List FootD), k ≤ n ∧ i = .int .i64 k ∧ AgreeFoot ys xs k ∧ wr.ownsRow w.heap.size 25 4 (.slice (some ⟨w.heap.size, 0, none⟩) n n) n (feet ys) ∧ Below w.heap.size w wr) (fun i _ => n - (intOf i).toNat)
  case atStart => exact ⟨0, _, by omega, rfl, fun j hj => by omega, HO, HB⟩
  case round =>
    obtain ⟨k, ys, hk, rfl, hag, ho, hb⟩ := hrel
    have hyl := Lib.hid (own_feet_len ho)
    by_cases hlt : k < n
    · obtain ⟨b, off, rfl, hbl, h0, h1, h2, h3⟩ := (h.below hb).feet hlt
      go_wp2_with fail
      refine (toFoot_any _ _ _ _ _).mono ?_
      rintro e w2 ⟨rfl, hb2⟩
      have ho2 := own_below ho hb2
      have k0 := ho2.cellAt (k * 4) (by omega)
      rw [feet_get0 (by rw [hyl.out]; exact hlt)] at k0
      have k1 := ho2.cellAt (k * 4 + 1) (by omega)
      rw [feet_get1 (by rw [hyl.out]; exact hlt)] at k1
      have k2 := ho2.cellAt (k * 4 + 2) (by omega)
      rw [feet_get2 (by rw [hyl.out]; exact hlt)] at k2
      have k3 := ho2.cellAt (k * 4 + 3) (by omega)
      rw [feet_get3 (by rw [hyl.out]; exact hlt)] at k3
      have hfr := ho2.frozenAt
      have hst := feet_stored (feetAt xs k) ho2 hlt
      have hst' := Lib.hid hst
      clear hst h0 h1 h2 h3
      go_wp2_with fail
      go_roundw
      case rel =>
        exact ⟨k + 1, _, by omega, by go_num, hag.step (by rw [hyl.out]; exact hlt), hst'.out.1, (Bl.then hb hb2).grown hst'.out.2 (Bl.then hb hb2).size (by rintro q hq; cases hq; exact Nat.le_refl _)⟩
      case measure => simp [intOf]; omega
    · go_wp2_with fail
      go_ret
      have e : ys = xs := ext_feet (by rw [hyl.out, hlen.out]) (fun j hj => hag j (by have := hlen.out; omega))
      subst e
      exact ⟨_, _, rfl, ho, hb⟩
theorem eqFootV_same (a b c d : Int) (w : World) :
    Calls Try.prog 17 #[.agg #[.int .i64 a, .int .i64 b, .int .i64 c, .int .i64 d], .agg #[.int .i64 a, .int .i64 b, .int .i64 c, .int .i64 d]] w fun e w' => e = .returned (.bool true) ∧ Below w.heap.size w w' := by
  go_enter Try.func17, Try.ntmps17
  go_wp2
  go_returns
  refine ⟨rfl, ?_⟩
  go_grown
theorem eqFootS_same (A A' : Option Addr) (n c c' : Nat) (xs : List FootD) (w : World) (h : Rd w 4 A n (feet xs)) (h' : Rd w 4 A' n (feet xs)) (hn : n ≤ 9223372036854775807) :
    Calls Try.prog 18 #[.slice A n c, .slice A' n c'] w fun e w' => e = .returned (.bool true) ∧ Below w.heap.size w w' := by
  go_enter Try.func18, Try.ntmps18
  go_wp2_with fail
  go_loopw [5] (fun i wr => ∃ k : Nat, k ≤ n ∧ i = .int .i64 k ∧ Below w.heap.size w wr) (fun i _ => n - (intOf i).toNat)
  case atStart => exact ⟨0, by omega, rfl, Below.refl _ _⟩
  case round =>
    obtain ⟨k, hk, rfl, hb⟩ := hrel
    by_cases hlt : k < n
    · obtain ⟨b, off, rfl, hbl, h0, h1, h2, h3⟩ := (h.below hb).feet hlt
      obtain ⟨b', off', rfl, hbl', i0, i1, i2, i3⟩ := (h'.below hb).feet hlt
      go_wp2_with fail
      go_region_held3 (fun wz => Below wr.heap.size wr wz ∧ ∀ b o, b < wr.heap.size → wz.cell? ⟨b, o, none⟩ = wr.cell? ⟨b, o, none⟩) ((refine old_of ?_; with_reducible first | assumption | exact Below.drew (Below.refl _ _))) ((go_at_call 17; (with_reducible refine (eqFootV_same _ _ _ _ _).mono ?_); rintro e w2 ⟨rfl, hb2⟩; have HZ := Bl.then (w := wr) (And.left (by assumption)) hb2))
      go_wp2_with fail
      go_roundw
      case rel => exact ⟨k + 1, by omega, by go_num, Bl.then hb HZ⟩
      case measure => simp [intOf]; omega
    · go_wp2_with fail
      go_ret
      exact ⟨rfl, hb⟩
theorem szFootS_ok (A : Option Addr) (n c : Nat) (left : Int) (w : World) (h1 : (n : Int) ≤ left) (h2 : left ≤ 1048576) :
    Calls Try.prog 13 #[.slice A n c, .int .i64 left] w fun e w' => e = .returned (.int .i64 (left - n)) ∧ w = w' := by
  go_enter Try.func13, Try.ntmps13
  go_wp2
  go_ret
  exact ⟨rfl, rfl⟩
theorem szFootS_big (A : Option Addr) (n c : Nat) (left : Int) (w : World) (h1 : left < (n : Int)) (h2 : left ≤ 1048576) (h0 : 0 ≤ left) (hn : n ≤ 9223372036854775807) :
    Calls Try.prog 13 #[.slice A n c, .int .i64 left] w fun e w' => e = .returned (.int .i64 (-1)) ∧ w = w' := by
  go_enter Try.func13, Try.ntmps13
  go_wp2
  go_ret
  exact ⟨rfl, rfl⟩
section
variable {ops : Array Oper} {rest : List Oper} {o : Oper} {a : Act} {Q : Exit → Act → World → Prop}
/-- 'append(out, x)': the new element lies in a block laid just before. -/
theorem wpList_app_feet (W : World) (hg : o.guard = none) (s x' : Operand) (ho : o.op = .call { callee := .builtin .append, args := #[s, x'], argTypes := #[28, 28] })
    (base : Nat) (A : Option Addr) (n c : Nat) (xs : List FootD) (x : FootD) (hs : a.eval s = .slice A n c) (hown : W.ownsRow base 25 4 (.slice A n c) n (feet xs))
    (hx : a.eval x' = .slice (some ⟨W.heap.size, 0, none⟩) 1 1) (hbase : base ≤ W.heap.size) (hn : n ≤ 1048577)
    (h : ∀ A' c' w', w'.ownsRow base 25 4 (.slice A' (n + 1) c') (n + 1) (feet (xs ++ [x])) → W.grownBy w' (Value.slice A n c).ownBlock → wpList Try.prog ops Q rest (a.put o.dst (.slice A' (n + 1) c')) w') :
    wpList Try.prog ops Q (o :: rest) a (W.alloc (.cells #[.int .i64 x.l, .int .i64 x.b, .int .i64 x.i, .int .i64 x.h] 25)) := by
  obtain ⟨i0, hi, hz0, hz1, hz2⟩ := info_parts feet_info
  refine wpList_append_own _ hg s x' 28 ho base 25 i0 _ 4 32 Try.underlying28 hi hz0 hz1 hz2 rfl (by decide) _ _ _ hs (hown.alloc _) ⟨W.heap.size, 0, none⟩ 1 1 x.cells hx rfl ?_ ?_ ?_ ?_ ?_ ?_
  · intro j u hu
    have hb := (Blk.new W 25 #[.int .i64 x.l, .int .i64 x.b, .int .i64 x.i, .int .i64 x.h]).cell j
    rw [List.getElem?_toArray] at hb
    simp only [FootD.cells] at hu
    rw [hu] at hb
    rw [Addr.add_lit, Nat.zero_add]
    exact hb
  · intro u hu
    simp only [FootD.cells, List.mem_cons, List.not_mem_nil, or_false] at hu
    rcases hu with rfl | rfl | rfl | rfl <;> rfl
  · unfold maxLen; omega
  · omega
  · simp; omega
  · intro v' w' hown' hg' _
    have hex : ∃ A' c', v' = .slice A' (n + 1) c' := by
      rcases hown'.2 with ⟨_, h0⟩ | ⟨g, cap, cur, hv, _⟩
      · omega
      · exact ⟨_, _, hv⟩
    obtain ⟨A', c', hv⟩ := hex
    rw [hv] at hown' ⊢
    refine h A' c' w' ?_ (gtrans (World.grownBy_alloc W _ _) hg')
    rw [feet_append]
    simpa [feet] using hown'
end
/-- The first k elements are the marks from m on. -/
def MarksFoot (ys : List FootD) (m : Int) (k : Nat) : Prop := ∀ j, j < k → feetAt ys j = ⟨m + 4 * (j : Int), m + 4 * (j : Int) + 1, m + 4 * (j : Int) + 2, m + 4 * (j : Int) + 3⟩
theorem MarksFoot.step {ys : List FootD} {m : Int} {k : Nat} {x : FootD} (h : MarksFoot ys m k) (hk : k < ys.length) (h0 : x.l = m + 4 * (k : Int)) (h1 : x.b = m + 4 * (k : Int) + 1) (h2 : x.i = m + 4 * (k : Int) + 2) (h3 : x.h = m + 4 * (k : Int) + 3) : MarksFoot (ys.set k x) m (k + 1) := fun j hj => by
  rw [feetAt_set hk]
  by_cases e : j = k
  · subst e
    rw [if_pos rfl]
    obtain ⟨x0, x1, x2, x3⟩ := x
    simp only at h0 h1 h2 h3
    subst h0 h1 h2 h3
    rfl
  · rw [if_neg e]; exact h j (by omega)
end Go.Proofs.Ytlbgognkaolamaa
