/-
  Walks over slices of Last: copied, compared; each for every slice that reads as the given list.
-/
import Derived.Test.YtebghfpkgdghcaaLastL
import Derived.Test.YtebghfpkgdghcaaLast
import Derived.Test.YtebghfpkgdghcaaBlk2
import Derived.BigQuiet
import Derived.Deep.QuietTactic
import Derived.Deep.RegionHeld3
namespace Go.Proofs.Ytebghfpkgdghcaa
open Go.RowKit
set_option maxHeartbeats 1000000

theorem lasts_info : (Try.prog.info? 31).map (fun i => (i.zero, i.size, i.bytes)) = some (some (.agg #[.string { data := #[] }, .int .i64 0, .int .i64 0, .int .i64 0, .int .i64 0, .int .i64 0]), 6, 56) := by kernel_rfl
theorem lasts_zeros (n : Nat) : (madeCells #[.string { data := #[] }, .int .i64 0, .int .i64 0, .int .i64 0, .int .i64 0, .int .i64 0] (n * 6)).toList = lasts (List.replicate n LastD.zero) := by
  apply List.ext_getElem?
  intro j
  by_cases hj : j < n * 6
  · have hm : j % 6 = 0 ∨ j % 6 = 1 ∨ j % 6 = 2 ∨ j % 6 = 3 ∨ j % 6 = 4 ∨ j % 6 = 5 := by omega
    rcases hm with e | e | e | e | e | e
    · have ej : j = j / 6 * 6 := by omega
      have hk : j / 6 < n := by omega
      have hr : (lasts (List.replicate n LastD.zero))[j / 6 * 6]? = some (.string { data := #[] }) := by
        rw [lasts_get0 (by simpa using hk)]
        simp [lastsAt, List.getD_eq_getElem?_getD, hk, LastD.zero]
        rfl
      rw [← ej] at hr
      rw [hr]
      simp [madeCells, hj, e]
    · have ej : j = j / 6 * 6 + 1 := by omega
      have hk : j / 6 < n := by omega
      have hr : (lasts (List.replicate n LastD.zero))[j / 6 * 6 + 1]? = some (.int .i64 0) := by
        rw [lasts_get1 (by simpa using hk)]
        simp [lastsAt, List.getD_eq_getElem?_getD, hk, LastD.zero]
      rw [← ej] at hr
      rw [hr]
      simp [madeCells, hj, e]
    · have ej : j = j / 6 * 6 + 2 := by omega
      have hk : j / 6 < n := by omega
      have hr : (lasts (List.replicate n LastD.zero))[j / 6 * 6 + 2]? = some (.int .i64 0) := by
        rw [lasts_get2 (by simpa using hk)]
        simp [lastsAt, List.getD_eq_getElem?_getD, hk, LastD.zero]
      rw [← ej] at hr
      rw [hr]
      simp [madeCells, hj, e]
    · have ej : j = j / 6 * 6 + 3 := by omega
      have hk : j / 6 < n := by omega
      have hr : (lasts (List.replicate n LastD.zero))[j / 6 * 6 + 3]? = some (.int .i64 0) := by
        rw [lasts_get3 (by simpa using hk)]
        simp [lastsAt, List.getD_eq_getElem?_getD, hk, LastD.zero]
      rw [← ej] at hr
      rw [hr]
      simp [madeCells, hj, e]
    · have ej : j = j / 6 * 6 + 4 := by omega
      have hk : j / 6 < n := by omega
      have hr : (lasts (List.replicate n LastD.zero))[j / 6 * 6 + 4]? = some (.int .i64 0) := by
        rw [lasts_get4 (by simpa using hk)]
        simp [lastsAt, List.getD_eq_getElem?_getD, hk, LastD.zero]
      rw [← ej] at hr
      rw [hr]
      simp [madeCells, hj, e]
    · have ej : j = j / 6 * 6 + 5 := by omega
      have hk : j / 6 < n := by omega
      have hr : (lasts (List.replicate n LastD.zero))[j / 6 * 6 + 5]? = some (.int .i64 0) := by
        rw [lasts_get5 (by simpa using hk)]
        simp [lastsAt, List.getD_eq_getElem?_getD, hk, LastD.zero]
      rw [← ej] at hr
      rw [hr]
      simp [madeCells, hj, e]
  · rw [List.getElem?_eq_none (by simp [madeCells]; omega), List.getElem?_eq_none (by rw [lasts_len]; simp; omega)]
theorem lasts_setAll {xs : List LastD} (x : LastD) : ∀ {k : Nat}, k < xs.length → ((((((lasts xs).set (k * 6) (.string x.s)).set (k * 6 + 1) (.int .i64 x.l)).set (k * 6 + 2) (.int .i64 x.b)).set (k * 6 + 3) (.int .i64 x.i)).set (k * 6 + 4) (.int .i64 x.h)).set (k * 6 + 5) (.int .i64 x.p) = lasts (xs.set k x) := by
  induction xs with
  | nil => intro k h; simp at h
  | cons y xs ih =>
    intro k h
    cases k with
    | zero => rfl
    | succ k =>
      have e0 : (k + 1) * 6 = y.cells.length + k * 6 := by simp [LastD.cells]; omega
      have e1 : y.cells.length + k * 6 + 1 = y.cells.length + (k * 6 + 1) := Nat.add_assoc _ _ _
      have e2 : y.cells.length + k * 6 + 2 = y.cells.length + (k * 6 + 2) := Nat.add_assoc _ _ _
      have e3 : y.cells.length + k * 6 + 3 = y.cells.length + (k * 6 + 3) := Nat.add_assoc _ _ _
      have e4 : y.cells.length + k * 6 + 4 = y.cells.length + (k * 6 + 4) := Nat.add_assoc _ _ _
      have e5 : y.cells.length + k * 6 + 5 = y.cells.length + (k * 6 + 5) := Nat.add_assoc _ _ _
      rw [lasts_cons, e0, List.set_append_right _ _ (by omega), Nat.add_sub_cancel_left, e1, List.set_append_right _ _ (by omega), Nat.add_sub_cancel_left, e2, List.set_append_right _ _ (by omega), Nat.add_sub_cancel_left, e3, List.set_append_right _ _ (by omega), Nat.add_sub_cancel_left, e4, List.set_append_right _ _ (by omega), Nat.add_sub_cancel_left, e5, List.set_append_right _ _ (by omega), Nat.add_sub_cancel_left, ih (by simpa using h)]
      rfl
/-- The first k elements agree. -/
def AgreeLast (ys xs : List LastD) (k : Nat) : Prop := ∀ j, j < k → lastsAt ys j = lastsAt xs j
theorem AgreeLast.step {ys xs : List LastD} {k : Nat} (h : AgreeLast ys xs k) (hk : k < ys.length) : AgreeLast (ys.set k (lastsAt xs k)) xs (k + 1) := fun j hj => by
  rw [lastsAt_set hk]
  by_cases e : j = k
  · subst e; simp
  · simp [e]; exact h j (by omega)
/-- A whole element stored. -/
theorem lasts_stored {W : World} {base g n c : Nat} {xs : List LastD} {k : Nat} (x : LastD) (ho : W.ownsRow base 31 6 (.slice (some ⟨g, 0, none⟩) n c) n (lasts xs)) (hk : k < n) :
    ((((((W.setCell ⟨g, k * 6, none⟩ (.string x.s)).setCell ⟨g, k * 6 + 1, none⟩ (.int .i64 x.l)).setCell ⟨g, k * 6 + 2, none⟩ (.int .i64 x.b)).setCell ⟨g, k * 6 + 3, none⟩ (.int .i64 x.i)).setCell ⟨g, k * 6 + 4, none⟩ (.int .i64 x.h)).setCell ⟨g, k * 6 + 5, none⟩ (.int .i64 x.p)).ownsRow base 31 6 (.slice (some ⟨g, 0, none⟩) n c) n (lasts (xs.set k x)) ∧ W.grownBy ((((((W.setCell ⟨g, k * 6, none⟩ (.string x.s)).setCell ⟨g, k * 6 + 1, none⟩ (.int .i64 x.l)).setCell ⟨g, k * 6 + 2, none⟩ (.int .i64 x.b)).setCell ⟨g, k * 6 + 3, none⟩ (.int .i64 x.i)).setCell ⟨g, k * 6 + 4, none⟩ (.int .i64 x.h)).setCell ⟨g, k * 6 + 5, none⟩ (.int .i64 x.p)) (some g) := by
  have hl := own_lasts_len ho
  have s0 := ho.stored (k * 6) (.string x.s)
  have s1 := s0.1.stored (k * 6 + 1) (.int .i64 x.l)
  have s2 := s1.1.stored (k * 6 + 2) (.int .i64 x.b)
  have s3 := s2.1.stored (k * 6 + 3) (.int .i64 x.i)
  have s4 := s3.1.stored (k * 6 + 4) (.int .i64 x.h)
  have s5 := s4.1.stored (k * 6 + 5) (.int .i64 x.p)
  refine ⟨?_, (gtrans (gtrans (gtrans (gtrans (gtrans s0.2 s1.2) s2.2) s3.2) s4.2) s5.2)⟩
  have h9 := s5.1
  rw [lasts_setAll x (by omega)] at h9
  exact h9
theorem toLastS_any (A : Option Addr) (n c : Nat) (xs : List LastD) (w : World) (h : Rd w 6 A n (lasts xs)) (hn : n ≤ 1048576) :
    Calls Try.prog 7 #[.slice A n c] w (RetSl 31 6 n (lasts xs) w) := by
  obtain ⟨i0, hi, hz0, hz1, hz2⟩ := info_parts lasts_info
  have hlen := Lib.hid h.lasts_length
  go_enter Try.func7, Try.ntmps7
  go_wp2_with (at_make; refine wpList_make_full _ rfl _ _ 27 rfl w.heap.size 31 i0 _ 6 Try.underlying27 hi hz0 hz1 _ _ _ _ n rfl rfl rfl rfl (by rw [hz2]; omega) (by unfold maxLen; omega) (Nat.le_refl _) ?_)
  intro w1 hown hg
  have HO : w1.ownsRow w.heap.size 31 6 (.slice (some ⟨w.heap.size, 0, none⟩) n n) n (lasts (List.replicate n LastD.zero)) := by
    have e := lasts_zeros n
    rw [e] at hown
    exact hown
  have HB : Below w.heap.size w w1 := (Below.refl _ _).grown hg (Nat.le_refl _) (fun k hk => by cases hk)
  clear hown hg hz0 hz1 hz2 hi
  go_wp2_with fail
  go_loopw [4] (fun i wr => ∃ (k : Nat) (ys : List LastD), k ≤ n ∧ i = .int .i64 k ∧ AgreeLast ys xs k ∧ wr.ownsRow w.heap.size 31 6 (.slice (some ⟨w.heap.size, 0, none⟩) n n) n (lasts ys) ∧ Below w.heap.size w wr) (fun i _ => n - (intOf i).toNat)
  case atStart => exact ⟨0, _, by omega, rfl, fun j hj => by omega, HO, HB⟩
  case round =>
    obtain ⟨k, ys, hk, rfl, hag, ho, hb⟩ := hrel
    have hyl := Lib.hid (own_lasts_len ho)
    by_cases hlt : k < n
    · obtain ⟨b, off, rfl, hbl, h0, h1, h2, h3, h4, h5⟩ := (h.below hb).lasts hlt
      go_wp2_with fail
      refine (toLast_any _ _ _ _ _ _ _).mono ?_
      rintro e w2 ⟨rfl, hb2⟩
      have ho2 := own_below ho hb2
      have k0 := ho2.cellAt (k * 6) (by omega)
      rw [lasts_get0 (by rw [hyl.out]; exact hlt)] at k0
      have k1 := ho2.cellAt (k * 6 + 1) (by omega)
      rw [lasts_get1 (by rw [hyl.out]; exact hlt)] at k1
      have k2 := ho2.cellAt (k * 6 + 2) (by omega)
      rw [lasts_get2 (by rw [hyl.out]; exact hlt)] at k2
      have k3 := ho2.cellAt (k * 6 + 3) (by omega)
      rw [lasts_get3 (by rw [hyl.out]; exact hlt)] at k3
      have k4 := ho2.cellAt (k * 6 + 4) (by omega)
      rw [lasts_get4 (by rw [hyl.out]; exact hlt)] at k4
      have k5 := ho2.cellAt (k * 6 + 5) (by omega)
      rw [lasts_get5 (by rw [hyl.out]; exact hlt)] at k5
      have hfr := ho2.frozenAt
      have hst := lasts_stored (lastsAt xs k) ho2 hlt
      have hst' := Lib.hid hst
      clear hst h0 h1 h2 h3 h4 h5
      go_wp2_with fail
      go_roundw
      case rel =>
        exact ⟨k + 1, _, by omega, by go_num, hag.step (by rw [hyl.out]; exact hlt), hst'.out.1, (Bl.then hb hb2).grown hst'.out.2 (Bl.then hb hb2).size (by rintro q hq; cases hq; exact Nat.le_refl _)⟩
      case measure => simp [intOf]; omega
    · go_wp2_with fail
      go_ret
      have e : ys = xs := ext_lasts (by rw [hyl.out, hlen.out]) (fun j hj => hag j (by have := hlen.out; omega))
      subst e
      exact ⟨_, _, rfl, ho, hb⟩
theorem eqLastS_same (A A' : Option Addr) (n c c' : Nat) (xs : List LastD) (w : World) (h : Rd w 6 A n (lasts xs)) (h' : Rd w 6 A' n (lasts xs)) (hn : n ≤ 9223372036854775807) :
    Calls Try.prog 10 #[.slice A n c, .slice A' n c'] w fun e w' => e = .returned (.bool true) ∧ Below w.heap.size w w' := by
  go_enter Try.func10, Try.ntmps10
  go_wp2_with fail
  go_loopw [5] (fun i wr => ∃ k : Nat, k ≤ n ∧ i = .int .i64 k ∧ Below w.heap.size w wr) (fun i _ => n - (intOf i).toNat)
  case atStart => exact ⟨0, by omega, rfl, Below.refl _ _⟩
  case round =>
    obtain ⟨k, hk, rfl, hb⟩ := hrel
    by_cases hlt : k < n
    · obtain ⟨b, off, rfl, hbl, h0, h1, h2, h3, h4, h5⟩ := (h.below hb).lasts hlt
      obtain ⟨b', off', rfl, hbl', i0, i1, i2, i3, i4, i5⟩ := (h'.below hb).lasts hlt
      go_wp2_with fail
      go_region_held3 (fun wz => Below wr.heap.size wr wz ∧ ∀ b o, b < wr.heap.size → wz.cell? ⟨b, o, none⟩ = wr.cell? ⟨b, o, none⟩) ((refine old_of ?_; with_reducible first | assumption | exact Below.drew (Below.refl _ _))) ((go_at_call 21; (with_reducible refine (eqLast_same _ _ _ _ _ _ _).mono ?_); rintro e w2 ⟨rfl, hb2⟩; have HZ := Bl.then (w := wr) (And.left (by assumption)) hb2))
      go_wp2_with fail
      go_roundw
      case rel => exact ⟨k + 1, by omega, by go_num, Bl.then hb HZ⟩
      case measure => simp [intOf]; omega
    · go_wp2_with fail
      go_ret
      exact ⟨rfl, hb⟩
/-- What the size of lasts comes to: -1, or what is left, and then the slice is short. -/
def SzPost (n : Nat) (left : Int) (w : World) (e : Ending) (w' : World) : Prop := Below w.heap.size w w' ∧ (e = .returned (.int .i64 (-1)) ∨ ∃ r : Int, e = .returned (.int .i64 r) ∧ 0 ≤ r ∧ r ≤ left ∧ (n : Int) ≤ left)
theorem szLastS_any (A : Option Addr) (n c : Nat) (xs : List LastD) (left : Int) (w : World) (h : Rd w 6 A n (lasts xs)) (hn : n ≤ 9223372036854775807) (hx : ∀ x ∈ xs, x.s.size ≤ maxLen) (h2 : left ≤ 1048576) (h0 : 0 ≤ left) :
    Calls Try.prog 4 #[.slice A n c, .int .i64 left] w (SzPost n left w) := by
  have hlen := Lib.hid h.lasts_length
  have hx' := Lib.hid hx
  clear hx
  by_cases hbig : left < (n : Int)
  · go_enter Try.func4, Try.ntmps4
    go_wp2_with fail
    go_ret
    exact ⟨Below.refl _ _, .inl rfl⟩
  have hle : (n : Int) ≤ left := by omega
  clear hbig
  go_enter Try.func4, Try.ntmps4
  go_wp2_with fail
  go_loopw [1, 5] (fun q i wr => ∃ (k : Nat) (r : Int), k ≤ n ∧ i = .int .i64 k ∧ q = .int .i64 r ∧ 0 ≤ r ∧ r ≤ left ∧ Below w.heap.size w wr) (fun _ i _ => n - (intOf i).toNat)
  case atStart => exact ⟨0, left - n, by omega, rfl, rfl, by omega, by omega, Below.refl _ _⟩
  case round =>
    obtain ⟨k, r, hk, rfl, rfl, hr0, hr1, HB⟩ := hrel
    by_cases hlt : k < n
    · obtain ⟨b, off, rfl, hbl, i0, i1, i2, i3, i4, i5⟩ := (h.below HB).lasts hlt
      have hs : (lastsAt xs k).s.size ≤ 9223372036854775807 := by
        have hl := hlen.out
        have := hx'.out xs[k] (List.getElem_mem (by omega))
        rw [lasts_eq (by omega)] at this
        unfold maxLen at this
        exact this
      by_cases hfit : ((lastsAt xs k).s.size : Int) ≤ r
      · go_wp2_with fail
        refine (szLast_ok _ _ _ _ _ _ _ _ hfit (by omega)).mono ?_
        rintro e w2 ⟨rfl, hb2⟩
        go_wp2_with fail
        go_roundw
        case rel => exact ⟨k + 1, _, by omega, by go_num, rfl, by omega, by omega, Bl.then HB hb2⟩
        case measure => simp [intOf]; omega
      · go_wp2_with fail
        refine (szLast_big _ _ _ _ _ _ _ _ (by omega) (by omega) hr0 hs).mono ?_
        rintro e w2 ⟨rfl, hb2⟩
        go_wp2_with fail
        go_ret
        exact ⟨Bl.then HB hb2, .inl rfl⟩
    · go_wp2_with fail
      go_ret
      exact ⟨HB, .inr ⟨_, rfl, hr0, hr1, hle⟩⟩
section
variable {ops : Array Oper} {rest : List Oper} {o : Oper} {a : Act} {Q : Exit → Act → World → Prop}
/-- 'append(out, x)': the new element lies in a block laid just before. -/
theorem wpList_app_lasts (W : World) (hg : o.guard = none) (s x' : Operand) (ho : o.op = .call { callee := .builtin .append, args := #[s, x'], argTypes := #[27, 27] })
    (base : Nat) (A : Option Addr) (n c : Nat) (xs : List LastD) (x : LastD) (hs : a.eval s = .slice A n c) (hown : W.ownsRow base 31 6 (.slice A n c) n (lasts xs))
    (hx : a.eval x' = .slice (some ⟨W.heap.size, 0, none⟩) 1 1) (hbase : base ≤ W.heap.size) (hn : n ≤ 1048577)
    (h : ∀ A' c' w', w'.ownsRow base 31 6 (.slice A' (n + 1) c') (n + 1) (lasts (xs ++ [x])) → W.grownBy w' (Value.slice A n c).ownBlock → wpList Try.prog ops Q rest (a.put o.dst (.slice A' (n + 1) c')) w') :
    wpList Try.prog ops Q (o :: rest) a (W.alloc (.cells #[.string x.s, .int .i64 x.l, .int .i64 x.b, .int .i64 x.i, .int .i64 x.h, .int .i64 x.p] 31)) := by
  obtain ⟨i0, hi, hz0, hz1, hz2⟩ := info_parts lasts_info
  refine wpList_append_own _ hg s x' 27 ho base 31 i0 _ 6 56 Try.underlying27 hi hz0 hz1 hz2 rfl (by decide) _ _ _ hs (hown.alloc _) ⟨W.heap.size, 0, none⟩ 1 1 x.cells hx rfl ?_ ?_ ?_ ?_ ?_ ?_
  · intro j u hu
    have hb := (Blk.new W 31 #[.string x.s, .int .i64 x.l, .int .i64 x.b, .int .i64 x.i, .int .i64 x.h, .int .i64 x.p]).cell j
    rw [List.getElem?_toArray] at hb
    simp only [LastD.cells] at hu
    rw [hu] at hb
    rw [Addr.add_lit, Nat.zero_add]
    exact hb
  · intro u hu
    simp only [LastD.cells, List.mem_cons, List.not_mem_nil, or_false] at hu
    rcases hu with rfl | rfl | rfl | rfl | rfl | rfl <;> rfl
  · unfold maxLen; omega
  · omega
  · simp; omega
  · intro v' w' hown' hg' _
    have hex : ∃ A' c', v' = .slice A' (n + 1) c' := by
      rcases hown'.2 with ⟨_, h0⟩ | ⟨g, cap, cur, hv, _⟩
      · omega
      · exact ⟨_, _, hv⟩
    obtain ⟨A', c', hv⟩ := hex
    rw [hv] at hown' ⊢
    refine h A' c' w' ?_ (gtrans (World.grownBy_alloc W _ _) hg')
    rw [lasts_append]
    simpa [lasts] using hown'
end
end Go.Proofs.Ytebghfpkgdghcaa
