/-
  SpreadOf of the reference; the condition of a slice argument is that it reads as the given list.
-/
import Derived.Test.YtlmjchmbbmiocaaMid
namespace Go.Proofs.Ytlmjchmbbmiocaa
open Go.RowKit
set_option maxHeartbeats 1600000

theorem srt_up (zs : List Int) : Up (srt zs) (srt zs).length := fun a b hab hb => by
  have h := List.pairwise_iff_getElem.1 (List.pairwise_mergeSort (le := fun x y : Int => decide (x ≤ y)) (fun a b c h1 h2 => by simp at *; omega) (fun a b => by simp; omega) zs) a b (by have := hb; unfold srt at this; omega) hb hab
  rw [← ix_eq (zs := srt zs) hb, ← ix_eq (zs := srt zs) (by omega)]
  have h2 : (srt zs)[a]'(by omega) ≤ (srt zs)[b]'hb := of_decide_eq_true h
  exact h2
theorem ix_mem {zs : List Int} {j : Nat} (h : j < zs.length) : ix zs j ∈ zs := by rw [← ix_eq h]; exact List.getElem_mem h
theorem mem_ix {zs : List Int} {x : Int} (h : x ∈ zs) : ∃ j, j < zs.length ∧ ix zs j = x := by
  obtain ⟨j, hj, e⟩ := List.getElem_of_mem h
  exact ⟨j, hj, by rw [← ix_eq hj]; exact e⟩
/-- The least of the first m. -/
def IsMin (zs : List Int) (m : Nat) (x : Int) : Prop := (∀ j, j < m → x ≤ ix zs j) ∧ ∃ j, j < m ∧ x = ix zs j
def IsMax (zs : List Int) (m : Nat) (x : Int) : Prop := (∀ j, j < m → ix zs j ≤ x) ∧ ∃ j, j < m ∧ x = ix zs j
theorem one_le {P : Nat → Prop} (h : P 0) : ∀ j, j < 1 → P j := fun j hj => by
  obtain rfl : j = 0 := by omega
  exact h
theorem IsMin.one (zs : List Int) : IsMin zs 1 (ix zs 0) := ⟨one_le (P := fun j => ix zs 0 ≤ ix zs j) (Int.le_refl _), 0, by omega, rfl⟩
theorem IsMax.one (zs : List Int) : IsMax zs 1 (ix zs 0) := ⟨one_le (P := fun j => ix zs j ≤ ix zs 0) (Int.le_refl _), 0, by omega, rfl⟩
def mn2 (a b : Int) : Int := if a < b then a else b
def mx2 (a b : Int) : Int := if a > b then a else b
theorem IsMin.step {zs : List Int} {m : Nat} {x : Int} (h : IsMin zs m x) : IsMin zs (m + 1) (mn2 x (ix zs m)) := by
  unfold mn2
  by_cases hc : x < ix zs m
  · rw [if_pos hc]
    obtain ⟨j, hj, e⟩ := h.2
    exact ⟨fun i hi => by rcases Nat.lt_or_ge i m with h1 | h1
                          · exact h.1 i h1
                          · obtain rfl : i = m := by omega
                            omega, j, by omega, e⟩
  · rw [if_neg hc]
    exact ⟨fun i hi => by rcases Nat.lt_or_ge i m with h1 | h1
                          · have := h.1 i h1; omega
                          · obtain rfl : i = m := by omega
                            exact Int.le_refl _, m, by omega, rfl⟩
theorem IsMax.step {zs : List Int} {m : Nat} {x : Int} (h : IsMax zs m x) : IsMax zs (m + 1) (mx2 x (ix zs m)) := by
  unfold mx2
  by_cases hc : x > ix zs m
  · rw [if_pos hc]
    obtain ⟨j, hj, e⟩ := h.2
    exact ⟨fun i hi => by rcases Nat.lt_or_ge i m with h1 | h1
                          · exact h.1 i h1
                          · obtain rfl : i = m := by omega
                            omega, j, by omega, e⟩
  · rw [if_neg hc]
    exact ⟨fun i hi => by rcases Nat.lt_or_ge i m with h1 | h1
                          · have := h.1 i h1; omega
                          · obtain rfl : i = m := by omega
                            exact Int.le_refl _, m, by omega, rfl⟩
theorem IsMin.eq {zs : List Int} {x : Int} (h : IsMin zs zs.length x) : x = ix (srt zs) 0 := by
  obtain ⟨j, hj, e⟩ := h.2
  have h0 : 0 < (srt zs).length := by rw [srt_len]; omega
  obtain ⟨a, ha, ea⟩ := mem_ix (srt_mem.1 (ix_mem h0))
  obtain ⟨b, hb, eb⟩ := mem_ix (srt_mem.2 (ix_mem hj))
  have h1 := h.1 a ha
  have h2 : ix (srt zs) 0 ≤ ix (srt zs) b := by
    rcases Nat.eq_zero_or_pos b with rfl | hp
    · exact Int.le_refl _
    · exact srt_up zs 0 b hp hb
  omega
theorem IsMax.eq {zs : List Int} {x : Int} (h : IsMax zs zs.length x) : x = ix (srt zs) (zs.length - 1) := by
  obtain ⟨j, hj, e⟩ := h.2
  have h0 : zs.length - 1 < (srt zs).length := by rw [srt_len]; omega
  obtain ⟨a, ha, ea⟩ := mem_ix (srt_mem.1 (ix_mem h0))
  obtain ⟨b, hb, eb⟩ := mem_ix (srt_mem.2 (ix_mem hj))
  have h1 := h.1 a ha
  have h2 : ix (srt zs) b ≤ ix (srt zs) (zs.length - 1) := by
    rw [srt_len] at hb
    rcases Nat.lt_or_ge b (zs.length - 1) with hp | hp
    · exact srt_up zs b _ hp h0
    · obtain rfl : b = zs.length - 1 := by omega
      exact Int.le_refl _
  omega
theorem l00MinV_any (a b : Int) (w : World) : Calls Try.prog 65 #[.int .i64 a, .int .i64 b] w fun e w' => e = .returned (.int .i64 (mn2 a b)) ∧ w = w' := by
  by_cases h : a < b
  · go_enter Try.func65, Try.ntmps65
    go_wp2
    go_ret
    exact ⟨ret_int (by unfold mn2; rw [if_pos h]), rfl⟩
  · go_enter Try.func65, Try.ntmps65
    go_wp2
    go_ret
    exact ⟨ret_int (by unfold mn2; rw [if_neg (by omega)]), rfl⟩
theorem l00MaxV_any (a b : Int) (w : World) : Calls Try.prog 57 #[.int .i64 a, .int .i64 b] w fun e w' => e = .returned (.int .i64 (mx2 a b)) ∧ w = w' := by
  by_cases h : a > b
  · go_enter Try.func57, Try.ntmps57
    go_wp2
    go_ret
    exact ⟨ret_int (by unfold mx2; rw [if_pos h]), rfl⟩
  · go_enter Try.func57, Try.ntmps57
    go_wp2
    go_ret
    exact ⟨ret_int (by unfold mx2; rw [if_neg (by omega)]), rfl⟩
theorem isMin_in {zs : List Int} {m : Nat} {x lo hi : Int} (h : IsMin zs m x) (ha : AllIn zs zs.length lo hi) (hm : m ≤ zs.length) : lo ≤ x ∧ x ≤ hi := by
  obtain ⟨j, hj, e⟩ := h.2
  have := inR_true.1 (ha j (by omega))
  omega
theorem isMax_in {zs : List Int} {m : Nat} {x lo hi : Int} (h : IsMax zs m x) (ha : AllIn zs zs.length lo hi) (hm : m ≤ zs.length) : lo ≤ x ∧ x ≤ hi := by
  obtain ⟨j, hj, e⟩ := h.2
  have := inR_true.1 (ha j (by omega))
  omega
set_option maxRecDepth 100000 in
theorem sSpreadOf_any (A : Option Addr) (n c : Nat) (xs : List FootD) (w : World) (h : Rd w 4 A n (feet xs)) (hn : n ≤ 1048576) :
    Calls Try.prog 34 #[.slice A n c] w fun e w' => e = .returned (.tuple #[.agg #[.int .i64 (fNum (feetC xs 0) (eachOf vSpan xs).l), .int .i64 (fNum (feetC xs 0) (eachOf vSpan xs).b), .int .i64 (fNum (feetC xs 0) (eachOf vSpan xs).i), .int .i64 (fNum (feetC xs 0) (eachOf vSpan xs).h)], .int .i64 (feetC xs 0)]) ∧ Below w.heap.size w w' := by
  have hlen := Lib.hid h.feet_length
  by_cases h0 : feetC xs 0 ≠ 0
  · have k1 : (feetC xs 0 != 0) = true := by simp [h0]
    have h0' := Lib.hid h0
    clear h0
    go_enter Try.func34, Try.ntmps34
    go_wp2_with fail
    refine (l02Code_any _ _ _ _ _ _ (h.alloc _) hn).mono ?_
    rintro e w1 ⟨rfl, H1⟩
    have BZ := (Blk.new w 34 #[.int .i64 0, .int .i64 0, .int .i64 0, .int .i64 0]).below H1
    have HW : Below w.heap.size w w1 := Bl.then (by go_grown) H1
    clear H1
    have cZ0 : w1.cell? ⟨w.heap.size, 0, none⟩ = some (.int .i64 0) := BZ.cell 0
    have cZ1 : w1.cell? ⟨w.heap.size, 1, none⟩ = some (.int .i64 0) := BZ.cell 1
    have cZ2 : w1.cell? ⟨w.heap.size, 2, none⟩ = some (.int .i64 0) := BZ.cell 2
    have cZ3 : w1.cell? ⟨w.heap.size, 3, none⟩ = some (.int .i64 0) := BZ.cell 3
    have fZ := BZ.frozen
    have lZ := BZ.lt
    go_wp2_with fail
    refine bodyPost_ret (v := .tuple #[.agg #[.int .i64 0, .int .i64 0, .int .i64 0, .int .i64 0], .int .i64 (feetC xs 0)]) (by simp [results, Try.results34, go_sem, cZ0, cZ1, cZ2, cZ3]) rfl ?_
    exact ⟨retF _ _ _ _ _ _ rfl h0'.out, (Below.setCell (Below.setCell (Below.setCell (Below.setCell HW (by simp; try omega) _) (by simp; try omega) _) (by simp; try omega) _) (by simp; try omega) _)⟩
  have h0 : feetC xs 0 = 0 := by simpa using h0
  obtain ⟨f1, f2, f3⟩ := feetC_ok h0
  rw [hlen.out] at f1 f2
  have f3' := Lib.hid f3
  have hu := Lib.hid (growL_4 vSpan xs)
  have k1 : (feetC xs 0 != 0) = false := by simp [h0]
  have h0' := Lib.hid h0
  clear h0 f3
  go_enter Try.func34, Try.ntmps34
  go_wp2_with fail
  refine (l02Code_any _ _ _ _ _ _ (h.alloc _) hn).mono ?_
  rintro e wa ⟨rfl, H1⟩
  have HZ : Below w.heap.size w wa := Bl.then (by go_grown) H1
  have B0 := (Blk.new w 34 #[.int .i64 0, .int .i64 0, .int .i64 0, .int .i64 0]).below H1
  have hz := h.below HZ
  clear H1
  go_wp2_with fail
  go_loopw [5, 6] (fun v i wr => ∃ (k : Nat) (A' : Option Addr) (c' : Nat), k ≤ 4 ∧ i = .int .i64 k ∧ v = .slice A' k c' ∧ wr.ownsRow wa.heap.size 2 1 (.slice A' k c') k (ints (growL vSpan xs k)) ∧ Below wa.heap.size wa wr) (fun _ i _ => 4 - (intOf i).toNat)
  case atStart => exact ⟨0, _, _, by omega, rfl, rfl, own_lit rfl (by simp) (by decide) rfl rfl, by go_grown⟩
  case round =>
    obtain ⟨k, A', c', hk, rfl, rfl, hp, HP⟩ := hrel
    obtain ⟨wo, rfl⟩ : ∃ wo : World, wo = wr := ⟨_, rfl⟩
    by_cases hlt : k < 4
    · have hk4 : decide ((k : Int) < 4) = true := by simp; omega
      go_wp2_with fail
      refine (l02Column_any _ _ _ _ k _ (hz.below HP) (by omega) hlt).mono ?_
      rintro e w3 ⟨A3, c3, rfl, o3, hb3⟩
      have HP3 := Bl.then HP hb3
      have hp3 := own_below hp hb3
      have R3 := Rd.of_own o3
      have hcl := Lib.hid (R3.len)
      have hal := Lib.hid (col_in f3'.out (k := k) hlt)
      have hgr := Lib.hid (show growL vSpan xs k ++ [vSpan (srt (col xs k))] = growL vSpan xs (k + 1) from rfl)
      generalize col xs k = zs at *
      obtain ⟨b3, off3, rfl, hbl3, q0⟩ := R3.int (k := 0) (by omega)
      simp only [Nat.add_zero] at q0
      have n0 : (0 : Int) < n := by omega
      clear o3 hp
      go_wp2_with fail
      go_loop [8, 9, 10] (fun x y i => ∃ (m : Nat) (lo hi : Int), 1 ≤ m ∧ m ≤ n ∧ x = .int .i64 lo ∧ y = .int .i64 hi ∧ i = .int .i64 m ∧ Hid (IsMin zs m lo) ∧ Hid (IsMax zs m hi)) (fun _ _ i => n - (intOf i).toNat)
      case atStart => exact ⟨1, _, _, by omega, by omega, rfl, rfl, rfl, Lib.hid (IsMin.one zs), Lib.hid (IsMax.one zs)⟩
      case round =>
        obtain ⟨m, lo, hi, hm1, hmn, rfl, rfl, rfl, imn, imx⟩ := hrel
        by_cases hlm : m < n
        · obtain ⟨b4, off4, heq, hbl4, q⟩ := R3.int (k := m) hlm
          simp only [Option.some.injEq, Addr.mk.injEq, and_true] at heq
          obtain ⟨rfl, rfl⟩ := heq
          go_wp2_with (first | (go_at_call 65; refine (l00MinV_any _ _ _).mono ?_; rintro e wx ⟨rfl, rfl⟩) | (go_at_call 57; refine (l00MaxV_any _ _ _).mono ?_; rintro e wx ⟨rfl, rfl⟩))
          go_round
          case rel => exact ⟨m + 1, _, _, by omega, by omega, rfl, rfl, by go_num, Lib.hid imn.out.step, Lib.hid imx.out.step⟩
          case measure => simp [intOf]; omega
        · obtain rfl : m = n := by omega
          obtain ⟨i1, i2⟩ := isMin_in imn.out hal.out (by rw [hcl.out]; exact Nat.le_refl _)
          obtain ⟨i3, i4⟩ := isMax_in imx.out hal.out (by rw [hcl.out]; exact Nat.le_refl _)
          have e1 := Lib.hid (show lo = ix (srt zs) 0 from IsMin.eq (by rw [hcl.out]; exact imn.out))
          have e2 := Lib.hid (show hi = ix (srt zs) (zs.length - 1) from IsMax.eq (by rw [hcl.out]; exact imx.out))
          have e3 := Lib.hid (show hi - lo = vSpan (srt zs) by rw [e1.out, e2.out, vSpan, srt_len])
          go_wp2_with (at_builtin; refine wpList_app_int _ rfl _ _ rfl _ _ _ _ _ _ rfl hp3 rfl HP3.size (by omega) ?_; intro A2 c2 w2 ho2 hg2)
          go_roundw
          case rel => exact ⟨k + 1, A2, c2, by omega, by go_num, rfl, by rw [e3.out, hgr.out] at ho2; exact ho2, app_below hp3 HP3 (Nat.le_refl _) HP3.size hg2⟩
          case measure => simp [intOf]; omega
    · obtain rfl : k = 4 := by omega
      rw [hu.out] at hp
      go_wp2_with fail
      refine (l02Of_any _ _ _ _ _ _ _ (Rd.of_own hp)).mono ?_
      rintro e w6 ⟨rfl, hb6⟩
      have HB6 := Bl.then HP hb6
      have B6 := B0.below HB6
      have d0 : w6.cell? ⟨w.heap.size, 0, none⟩ = some (.int .i64 0) := B6.cell 0
      have d1 : w6.cell? ⟨w.heap.size, 1, none⟩ = some (.int .i64 0) := B6.cell 1
      have d2 : w6.cell? ⟨w.heap.size, 2, none⟩ = some (.int .i64 0) := B6.cell 2
      have d3 : w6.cell? ⟨w.heap.size, 3, none⟩ = some (.int .i64 0) := B6.cell 3
      have fz := B6.frozen
      have HW := Bl.then HZ HB6
      go_wp2_with fail
      refine bodyPost_ret (v := .tuple #[.agg #[.int .i64 (eachOf vSpan xs).l, .int .i64 (eachOf vSpan xs).b, .int .i64 (eachOf vSpan xs).i, .int .i64 (eachOf vSpan xs).h], .int .i64 0]) (by simp [results, Try.results34, go_sem, d0, d1, d2, d3]) rfl ?_
      exact ⟨retF0 _ _ _ _ _ h0'.out, ((((HW.setCell (Nat.le_refl _) _).setCell (Nat.le_refl _) _).setCell (Nat.le_refl _) _).setCell (Nat.le_refl _) _)⟩
end Go.Proofs.Ytlmjchmbbmiocaa
