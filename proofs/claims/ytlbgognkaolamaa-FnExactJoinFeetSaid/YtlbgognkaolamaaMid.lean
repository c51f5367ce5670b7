/-
  MiddleFoot and SpreadOf of the program and of the reference; the condition of a slice argument is that it reads as the given list.
-/
import Derived.Test.YtlbgognkaolamaaMidS
import Derived.Test.YtlbgognkaolamaaBlk2
import Derived.Test.YtlbgognkaolamaaLens0
namespace Go.Proofs.Ytlbgognkaolamaa
open Go.RowKit
set_option maxHeartbeats 1600000

/-- The code of feet and a distance. -/
def feetC (xs : List FootD) (most : Int) : Int := if feetOk xs = false then 1 else if inR most 0 5000 = false then 2 else if xs.length = 0 then 3 else 0
theorem feetC_ok {xs : List FootD} {most : Int} (h : feetC xs most = 0) : 1 ≤ xs.length ∧ xs.length ≤ 30 ∧ xs.all fOk = true := by
  unfold feetC at h
  by_cases h1 : feetOk xs = false
  · rw [if_pos h1] at h; omega
  by_cases h2 : inR most 0 5000 = false
  · rw [if_neg h1, if_pos h2] at h; omega
  by_cases h3 : xs.length = 0
  · rw [if_neg h1, if_neg h2, if_pos h3] at h; omega
  have h4 : feetOk xs = true := by simpa using h1
  simp only [feetOk, Bool.and_eq_true, decide_eq_true_eq] at h4
  exact ⟨by omega, h4.2, h4.1⟩
def fNum (c x : Int) : Int := if c = 0 then x else 0
theorem retF (c k : Int) (x1 x2 x3 x4 : Int) (hc : c = k) (hk : k ≠ 0) :
    Ending.returned (.tuple #[.agg #[.int .i64 0, .int .i64 0, .int .i64 0, .int .i64 0], .int .i64 k]) = .returned (.tuple #[.agg #[.int .i64 (fNum c x1), .int .i64 (fNum c x2), .int .i64 (fNum c x3), .int .i64 (fNum c x4)], .int .i64 c]) := by
  subst hc; simp [fNum, hk]
theorem retF0 (c : Int) (x1 x2 x3 x4 : Int) (hc : c = 0) :
    Ending.returned (.tuple #[.agg #[.int .i64 x1, .int .i64 x2, .int .i64 x3, .int .i64 x4], .int .i64 0]) = .returned (.tuple #[.agg #[.int .i64 (fNum c x1), .int .i64 (fNum c x2), .int .i64 (fNum c x3), .int .i64 (fNum c x4)], .int .i64 c]) := by
  subst hc; simp [fNum]
theorem feetCode_any (A : Option Addr) (n c : Nat) (xs : List FootD) (most : Int) (w : World) (h : Rd w 4 A n (feet xs)) (hn : n ≤ 1048576) :
    Calls Try.prog 56 #[.slice A n c, .int .i64 most] w fun e w' => e = .returned (.int .i64 (feetC xs most)) ∧ Below w.heap.size w w' := by
  have hlen := Lib.hid h.feet_length
  cases h1 : feetOk xs
  · have hr := Lib.hid (show feetC xs most = 1 by simp [feetC, h1])
    go_enter Try.func56, Try.ntmps56
    go_wp2_with fail
    refine (ValidFeet_any _ _ _ _ _ h (by omega)).mono ?_
    rintro e w1 ⟨rfl, hb1⟩
    go_wp2_with fail
    go_ret
    exact ⟨ret_int hr.out.symm, hb1⟩
  cases h2 : inR most 0 5000
  · have hr := Lib.hid (show feetC xs most = 2 by simp [feetC, h1, h2])
    go_enter Try.func56, Try.ntmps56
    go_wp2_with fail
    refine (ValidFeet_any _ _ _ _ _ h (by omega)).mono ?_
    rintro e w1 ⟨rfl, hb1⟩
    go_wp2_with (go_at_call 70; refine (within_any _ _ _ _).mono ?_; rintro e w9 ⟨rfl, rfl⟩)
    go_ret
    exact ⟨ret_int hr.out.symm, hb1⟩
  rcases Nat.eq_zero_or_pos n with h3 | h3
  · have hr := Lib.hid (show feetC xs most = 3 by simp [feetC, h1, h2, hlen.out, h3])
    have k1 : ((n : Int) == 0) = true := by simp [h3]
    clear h3
    go_enter Try.func56, Try.ntmps56
    go_wp2_with fail
    refine (ValidFeet_any _ _ _ _ _ h (by omega)).mono ?_
    rintro e w1 ⟨rfl, hb1⟩
    go_wp2_with (go_at_call 70; refine (within_any _ _ _ _).mono ?_; rintro e w9 ⟨rfl, rfl⟩)
    go_ret
    exact ⟨ret_int hr.out.symm, hb1⟩
  have hr := Lib.hid (show feetC xs most = 0 by have : ¬ n = 0 := by omega
                                                simp [feetC, h1, h2, hlen.out, this])
  have k1 : ((n : Int) == 0) = false := by rw [beq_eq_false_iff_ne]; omega
  go_enter Try.func56, Try.ntmps56
  go_wp2_with fail
  refine (ValidFeet_any _ _ _ _ _ h (by omega)).mono ?_
  rintro e w1 ⟨rfl, hb1⟩
  go_wp2_with (go_at_call 70; refine (within_any _ _ _ _).mono ?_; rintro e w9 ⟨rfl, rfl⟩)
  go_ret
  exact ⟨ret_int hr.out.symm, hb1⟩
theorem l02Code_any (A : Option Addr) (n c : Nat) (xs : List FootD) (most : Int) (w : World) (h : Rd w 4 A n (feet xs)) (hn : n ≤ 1048576) :
    Calls Try.prog 53 #[.slice A n c, .int .i64 most] w fun e w' => e = .returned (.int .i64 (feetC xs most)) ∧ Below w.heap.size w w' := by
  have hlen := Lib.hid h.feet_length
  cases h1 : feetOk xs
  · have hr := Lib.hid (show feetC xs most = 1 by simp [feetC, h1])
    go_enter Try.func53, Try.ntmps53
    go_wp2_with fail
    refine (l02Ok_any _ _ _ _ _ h (by omega)).mono ?_
    rintro e w1 ⟨rfl, hb1⟩
    go_wp2_with fail
    go_ret
    exact ⟨ret_int hr.out.symm, hb1⟩
  cases h2 : inR most 0 5000
  · have hr := Lib.hid (show feetC xs most = 2 by simp [feetC, h1, h2])
    go_enter Try.func53, Try.ntmps53
    go_wp2_with fail
    refine (l02Ok_any _ _ _ _ _ h (by omega)).mono ?_
    rintro e w1 ⟨rfl, hb1⟩
    go_wp2_with (go_at_call 65; refine (l00In_any _ _ _ _).mono ?_; rintro e w9 ⟨rfl, rfl⟩)
    go_ret
    exact ⟨ret_int hr.out.symm, hb1⟩
  rcases Nat.eq_zero_or_pos n with h3 | h3
  · have hr := Lib.hid (show feetC xs most = 3 by simp [feetC, h1, h2, hlen.out, h3])
    have k1 : ((n : Int) == 0) = true := by simp [h3]
    clear h3
    go_enter Try.func53, Try.ntmps53
    go_wp2_with fail
    refine (l02Ok_any _ _ _ _ _ h (by omega)).mono ?_
    rintro e w1 ⟨rfl, hb1⟩
    go_wp2_with (go_at_call 65; refine (l00In_any _ _ _ _).mono ?_; rintro e w9 ⟨rfl, rfl⟩)
    go_ret
    exact ⟨ret_int hr.out.symm, hb1⟩
  have hr := Lib.hid (show feetC xs most = 0 by have : ¬ n = 0 := by omega
                                                simp [feetC, h1, h2, hlen.out, this])
  have k1 : ((n : Int) == 0) = false := by rw [beq_eq_false_iff_ne]; omega
  go_enter Try.func53, Try.ntmps53
  go_wp2_with fail
  refine (l02Ok_any _ _ _ _ _ h (by omega)).mono ?_
  rintro e w1 ⟨rfl, hb1⟩
  go_wp2_with (go_at_call 65; refine (l00In_any _ _ _ _).mono ?_; rintro e w9 ⟨rfl, rfl⟩)
  go_ret
  exact ⟨ret_int hr.out.symm, hb1⟩
theorem middleFoot_any (A : Option Addr) (n c : Nat) (xs : List FootD) (w : World) (h : Rd w 4 A n (feet xs)) (hn : 1 ≤ n) (hn2 : n ≤ 30) (hx : xs.all fOk = true) :
    Calls Try.prog 57 #[.slice A n c] w fun e w' => e = .returned (.agg #[.int .i64 (eachOf vMid xs).l, .int .i64 (eachOf vMid xs).b, .int .i64 (eachOf vMid xs).i, .int .i64 (eachOf vMid xs).h]) ∧ Below w.heap.size w w' := by
  go_enter Try.func57, Try.ntmps57
  go_wp2_with fail
  refine (eachMeasure_vMid _ _ _ _ _ (h.alloc _) hn hn2 hx).mono ?_
  rintro e w1 ⟨rfl, H1⟩
  have BZ := (Blk.new w 25 #[.int .i64 0, .int .i64 0, .int .i64 0, .int .i64 0]).below H1
  have HW : Below w.heap.size w w1 := Bl.then (by go_grown) H1
  clear H1
  have cZ0 : w1.cell? ⟨w.heap.size, 0, none⟩ = some (.int .i64 0) := BZ.cell 0
  have cZ1 : w1.cell? ⟨w.heap.size, 1, none⟩ = some (.int .i64 0) := BZ.cell 1
  have cZ2 : w1.cell? ⟨w.heap.size, 2, none⟩ = some (.int .i64 0) := BZ.cell 2
  have cZ3 : w1.cell? ⟨w.heap.size, 3, none⟩ = some (.int .i64 0) := BZ.cell 3
  have fZ := BZ.frozen
  have lZ := BZ.lt
  go_wp2_with fail
  refine bodyPost_ret (v := .agg #[.int .i64 (eachOf vMid xs).l, .int .i64 (eachOf vMid xs).b, .int .i64 (eachOf vMid xs).i, .int .i64 (eachOf vMid xs).h]) (by simp [results, Try.results57, go_sem, cZ0, cZ1, cZ2, cZ3]) rfl ?_
  exact ⟨rfl, (Below.setCell (Below.setCell (Below.setCell (Below.setCell HW (by simp; try omega) _) (by simp; try omega) _) (by simp; try omega) _) (by simp; try omega) _)⟩
/-- The first k numbers. -/
def growL (v : List Int → Int) (xs : List FootD) : Nat → List Int
  | 0 => []
  | k + 1 => growL v xs k ++ [v (srt (col xs k))]
theorem growL_4 (v : List Int → Int) (xs : List FootD) : growL v xs 4 = [(eachOf v xs).l, (eachOf v xs).b, (eachOf v xs).i, (eachOf v xs).h] := rfl
set_option maxRecDepth 100000 in
theorem l02Mid_any (A : Option Addr) (n c : Nat) (xs : List FootD) (w : World) (h : Rd w 4 A n (feet xs)) (hn : 1 ≤ n) (hn2 : n ≤ 30) (_ : xs.all fOk = true) :
    Calls Try.prog 55 #[.slice A n c] w fun e w' => e = .returned (.agg #[.int .i64 (eachOf vMid xs).l, .int .i64 (eachOf vMid xs).b, .int .i64 (eachOf vMid xs).i, .int .i64 (eachOf vMid xs).h]) ∧ Below w.heap.size w w' := by
  have hlen := Lib.hid h.feet_length
  have hu := Lib.hid (growL_4 vMid xs)
  go_enter Try.func55, Try.ntmps55
  have HZ : Below w.heap.size w (w.alloc (.cells #[.int .i64 0, .int .i64 0, .int .i64 0, .int .i64 0] 25)) := by go_grown
  have B0 : Blk (w.alloc (.cells #[.int .i64 0, .int .i64 0, .int .i64 0, .int .i64 0] 25)) w.heap.size 25 #[.int .i64 0, .int .i64 0, .int .i64 0, .int .i64 0] := Blk.new _ _ _
  have hz := h.alloc (.cells #[.int .i64 0, .int .i64 0, .int .i64 0, .int .i64 0] 25)
  have hs : (w.alloc (.cells #[.int .i64 0, .int .i64 0, .int .i64 0, .int .i64 0] 25)).heap.size = w.heap.size + 1 := by simp
  have hsz := Lib.hid hs
  clear hs
  go_upto_region 1 with fail
  generalize w.alloc (.cells #[.int .i64 0, .int .i64 0, .int .i64 0, .int .i64 0] 25) = Wz at *
  go_wp2_with fail
  go_loopw [3, 4] (fun v i wr => ∃ (k : Nat) (A' : Option Addr) (c' : Nat), k ≤ 4 ∧ i = .int .i64 k ∧ v = .slice A' k c' ∧ wr.ownsRow Wz.heap.size 2 1 (.slice A' k c') k (ints (growL vMid xs k)) ∧ Below Wz.heap.size Wz wr) (fun _ i _ => 4 - (intOf i).toNat)
  case atStart => exact ⟨0, _, _, by omega, rfl, rfl, own_lit rfl (by simp) (by decide) rfl rfl, by go_grown⟩
  case round =>
    obtain ⟨k, A', c', hk, rfl, rfl, hp, HP⟩ := hrel
    by_cases hlt : k < 4
    · go_wp2_with fail
      refine (l02Column_any _ _ _ _ k _ (hz.below HP) (by omega) hlt).mono ?_
      rintro e w3 ⟨A3, c3, rfl, o3, hb3⟩
      have HP3 := Bl.then HP hb3
      have hp3 := own_below hp hb3
      go_wp2_with fail
      refine (l02Middle_any _ _ _ _ _ (Rd.of_own o3) (by omega) (by omega)).mono ?_
      rintro e w4 ⟨rfl, hb4⟩
      have HP4 := Bl.then HP3 hb4
      have hp4 := own_below hp3 hb4
      have hgr := Lib.hid (show growL vMid xs k ++ [vMid (srt (col xs k))] = growL vMid xs (k + 1) from rfl)
      clear o3 hp3
      go_wp2_with (at_builtin; refine wpList_app_int _ rfl _ _ rfl _ _ _ _ _ _ rfl hp4 rfl HP4.size (by omega) ?_; intro A2 c2 w2 ho2 hg2)
      go_roundw
      case rel => exact ⟨k + 1, A2, c2, by omega, by go_num, rfl, by rw [hgr.out] at ho2; exact ho2, app_below hp4 HP4 (Nat.le_refl _) HP4.size hg2⟩
      case measure => simp [intOf]; omega
    · obtain rfl : k = 4 := by omega
      rw [hu.out] at hp
      go_wp2_with fail
      refine (l02Of_any _ _ _ _ _ _ _ (Rd.of_own hp)).mono ?_
      rintro e w6 ⟨rfl, hb6⟩
      have HB6 := Bl.then HP hb6
      have B6 := B0.below HB6
      have d0 : w6.cell? ⟨w.heap.size, 0, none⟩ = some (.int .i64 0) := B6.cell 0
      have d1 : w6.cell? ⟨w.heap.size, 1, none⟩ = some (.int .i64 0) := B6.cell 1
      have d2 : w6.cell? ⟨w.heap.size, 2, none⟩ = some (.int .i64 0) := B6.cell 2
      have d3 : w6.cell? ⟨w.heap.size, 3, none⟩ = some (.int .i64 0) := B6.cell 3
      have fz := B6.frozen
      have HW := Bl.then HZ HB6
      go_wp2_with fail
      refine bodyPost_ret (v := .agg #[.int .i64 (eachOf vMid xs).l, .int .i64 (eachOf vMid xs).b, .int .i64 (eachOf vMid xs).i, .int .i64 (eachOf vMid xs).h]) (by simp [results, Try.results55, go_sem, d0, d1, d2, d3]) rfl ?_
      exact ⟨rfl, ((((HW.setCell (Nat.le_refl _) _).setCell (Nat.le_refl _) _).setCell (Nat.le_refl _) _).setCell (Nat.le_refl _) _)⟩
end Go.Proofs.Ytlbgognkaolamaa
