/-
  Widths: ValidWidths of the program and of the reference, girths; no condition.
-/
import Derived.Test.YtclfgkpllliacaaScal
namespace Go.Proofs.Ytclfgkpllliacaa
open Go.RowKit
set_option maxHeartbeats 400000

def widthsOk (a b c d : Int) : Bool := inR a 1000 3000 && inR b 0 50 && inR c 1 200 && inR d 1 12
theorem ValidWidths_any (a b c d : Int) (w : World) :
    Calls Try.prog 15 #[.agg #[.int .i64 a, .int .i64 b, .int .i64 c, .int .i64 d]] w fun e w' => e = .returned (.bool (widthsOk a b c d)) ∧ Below w.heap.size w w' := by
  cases h1 : inR a 1000 3000 <;> cases h2 : inR b 0 50 <;> cases h3 : inR c 1 200 <;> cases h4 : inR d 1 12 <;>
  ( go_enter Try.func15, Try.ntmps15
    go_wp2_with (go_at_call 40; refine (within_any _ _ _ _).mono ?_; rintro e w' ⟨rfl, rfl⟩)
    go_ret
    refine ⟨ret_bool (by simp [widthsOk, h1, h2, h3, h4]), ?_⟩
    go_grown)
theorem l03Widths_any (a b c d : Int) (w : World) :
    Calls Try.prog 39 #[.agg #[.int .i64 a, .int .i64 b, .int .i64 c, .int .i64 d]] w fun e w' => e = .returned (.bool (widthsOk a b c d)) ∧ Below w.heap.size w w' := by
  cases h1 : inR a 1000 3000 <;> cases h2 : inR b 0 50 <;> cases h3 : inR c 1 200 <;> cases h4 : inR d 1 12 <;>
  ( go_enter Try.func39, Try.ntmps39
    go_wp2_with (go_at_call 47; refine (l00In_any _ _ _ _).mono ?_; rintro e w' ⟨rfl, rfl⟩)
    go_ret
    refine ⟨ret_bool (by simp [widthsOk, h1, h2, h3, h4]), ?_⟩
    go_grown)
theorem sValidWidths_any (a b c d : Int) (w : World) :
    Calls Try.prog 13 #[.agg #[.int .i64 a, .int .i64 b, .int .i64 c, .int .i64 d]] w fun e w' => e = .returned (.bool (widthsOk a b c d)) ∧ Below w.heap.size w w' := by
  go_enter Try.func13, Try.ntmps13
  go_wp2_with fail
  refine (l03Widths_any _ _ _ _ _).mono ?_
  rintro e w1 ⟨rfl, hb1⟩
  go_wp2_with fail
  go_ret
  exact ⟨rfl, Bl.then (by go_grown) hb1⟩

theorem widthsOk_bd {a b c d : Int} (h : widthsOk a b c d = true) : (1000 ≤ a ∧ a ≤ 3000) ∧ (0 ≤ b ∧ b ≤ 50) ∧ (1 ≤ c ∧ c ≤ 200) ∧ (1 ≤ d ∧ d ≤ 12) := by
  simp only [widthsOk, Bool.and_eq_true, inR_true] at h
  omega
def gir (a b c half k : Int) : Int := a + half * b + k * c
def girthOf (a b c d half width : Int) : Int × Int :=
  if widthsOk a b c d = false then (0, 1) else if inR half 0 120 = false then (0, 2) else if inR width 0 (d - 1) = false then (0, 2) else (gir a b c half width, 0)
def widthFor (a b c d half g : Int) : Int × Int :=
  if widthsOk a b c d = false then (0, 1) else if inR half 0 120 = false then (0, 2) else if inR g 0 5000 = false then (0, 2) else
    match firstOf d.toNat (fun k => decide (g ≤ gir a b c half k)) with
    | some k => ((k : Int), 0)
    | none => (0, 10)
theorem girth_any (a b c d half k : Int) (w : World) (ha : 0 ≤ a ∧ a ≤ 3000) (hb : 0 ≤ b ∧ b ≤ 50) (hc : 0 ≤ c ∧ c ≤ 200) (hh : 0 ≤ half ∧ half ≤ 120) (hk : 0 ≤ k ∧ k ≤ 12) :
    Calls Try.prog 50 #[.agg #[.int .i64 a, .int .i64 b, .int .i64 c, .int .i64 d], .int .i64 half, .int .i64 k] w fun e w' => e = .returned (.int .i64 (gir a b c half k)) ∧ Below w.heap.size w w' := by
  obtain ⟨ha1, ha2⟩ := ha
  obtain ⟨p1, p2⟩ := mul_bd hh.1 hh.2 hb.1 hb.2 (C := 6000) (by decide)
  obtain ⟨p3, p4⟩ := mul_bd hk.1 hk.2 hc.1 hc.2 (C := 2400) (by decide)
  clear hh hb hc hk
  go_enter Try.func50, Try.ntmps50
  go_wp2
  go_ret
  refine ⟨rfl, ?_⟩
  go_grown
theorem l03Girth_any (a b c d half k : Int) (w : World) (ha : 0 ≤ a ∧ a ≤ 3000) (hb : 0 ≤ b ∧ b ≤ 50) (hc : 0 ≤ c ∧ c ≤ 200) (hh : 0 ≤ half ∧ half ≤ 120) (hk : 0 ≤ k ∧ k ≤ 12) :
    Calls Try.prog 48 #[.agg #[.int .i64 a, .int .i64 b, .int .i64 c, .int .i64 d], .int .i64 half, .int .i64 k] w fun e w' => e = .returned (.int .i64 (gir a b c half k)) ∧ Below w.heap.size w w' := by
  obtain ⟨ha1, ha2⟩ := ha
  obtain ⟨p1, p2⟩ := mul_bd hh.1 hh.2 hb.1 hb.2 (C := 6000) (by decide)
  obtain ⟨p3, p4⟩ := mul_bd hk.1 hk.2 hc.1 hc.2 (C := 2400) (by decide)
  clear hh hb hc hk
  go_enter Try.func48, Try.ntmps48
  go_wp2
  go_ret
  refine ⟨rfl, ?_⟩
  go_grown
theorem GirthOf_any (a b c d half width : Int) (w : World) :
    Calls Try.prog 25 #[.agg #[.int .i64 a, .int .i64 b, .int .i64 c, .int .i64 d], .int .i64 half, .int .i64 width] w fun e w' => e = .returned (.tuple #[.int .i64 (girthOf a b c d half width).1, .int .i64 (girthOf a b c d half width).2]) ∧ Below w.heap.size w w' := by
  cases h1 : widthsOk a b c d
  · go_enter Try.func25, Try.ntmps25
    go_wp2_with (go_at_call 15; refine (ValidWidths_any _ _ _ _ _).mono ?_; rintro e w1 ⟨rfl, H1⟩)
    go_ret2
    exact ⟨ret_pair (by simp [girthOf, h1]), Bl.then (by go_grown) H1⟩
  obtain ⟨⟨ha1, ha2⟩, ⟨hb1, hb2⟩, ⟨hc1, hc2⟩, hd1, hd2⟩ := widthsOk_bd h1
  cases h2 : inR half 0 120
  · go_enter Try.func25, Try.ntmps25
    go_wp2_with (first | (go_at_call 15; refine (ValidWidths_any _ _ _ _ _).mono ?_; rintro e w1 ⟨rfl, H1⟩; obtain ⟨hc, hf⟩ := bcell H1) | (go_at_call 49; refine (isHalf_any _ _).mono ?_; rintro e w2 ⟨rfl, rfl⟩))
    go_ret2
    exact ⟨ret_pair (by simp [girthOf, h1, h2]), Bl.then (by go_grown) H1⟩
  obtain ⟨hh1, hh2⟩ := inR_true.1 h2
  cases h3 : inR width 0 (d - 1)
  · go_enter Try.func25, Try.ntmps25
    go_wp2_with (first | (go_at_call 15; refine (ValidWidths_any _ _ _ _ _).mono ?_; rintro e w1 ⟨rfl, H1⟩; obtain ⟨hc, hf⟩ := bcell H1) | (go_at_call 49; refine (isHalf_any _ _).mono ?_; rintro e w2 ⟨rfl, rfl⟩) | (go_at_call 40; refine (within_any _ _ _ _).mono ?_; rintro e w2 ⟨rfl, rfl⟩))
    go_ret2
    exact ⟨ret_pair (by simp [girthOf, h1, h2, h3]), Bl.then (by go_grown) H1⟩
  obtain ⟨hw1, hw2⟩ := inR_true.1 h3
  go_enter Try.func25, Try.ntmps25
  go_wp2_with (first | (go_at_call 15; refine (ValidWidths_any _ _ _ _ _).mono ?_; rintro e w1 ⟨rfl, H1⟩; obtain ⟨hc, hf⟩ := bcell H1) | (go_at_call 49; refine (isHalf_any _ _).mono ?_; rintro e w2 ⟨rfl, rfl⟩) | (go_at_call 40; refine (within_any _ _ _ _).mono ?_; rintro e w2 ⟨rfl, rfl⟩) | (go_at_call 50; refine (girth_any _ _ _ _ _ _ _ (by omega) (by omega) (by omega) (by omega) (by omega)).mono ?_; rintro e w3 ⟨rfl, H3⟩))
  go_ret2
  exact ⟨ret_pair (by simp [girthOf, h1, h2, h3]), Bl.then (by go_grown) (Bl.then H1 H3)⟩
theorem sGirthOf_any (a b c d half width : Int) (w : World) :
    Calls Try.prog 24 #[.agg #[.int .i64 a, .int .i64 b, .int .i64 c, .int .i64 d], .int .i64 half, .int .i64 width] w fun e w' => e = .returned (.tuple #[.int .i64 (girthOf a b c d half width).1, .int .i64 (girthOf a b c d half width).2]) ∧ Below w.heap.size w w' := by
  cases h1 : widthsOk a b c d
  · go_enter Try.func24, Try.ntmps24
    go_wp2_with (go_at_call 39; refine (l03Widths_any _ _ _ _ _).mono ?_; rintro e w1 ⟨rfl, H1⟩)
    go_ret2
    exact ⟨ret_pair (by simp [girthOf, h1]), Bl.then (by go_grown) H1⟩
  obtain ⟨⟨ha1, ha2⟩, ⟨hb1, hb2⟩, ⟨hc1, hc2⟩, hd1, hd2⟩ := widthsOk_bd h1
  cases h2 : inR half 0 120
  · go_enter Try.func24, Try.ntmps24
    go_wp2_with (first | (go_at_call 39; refine (l03Widths_any _ _ _ _ _).mono ?_; rintro e w1 ⟨rfl, H1⟩; obtain ⟨hc, hf⟩ := bcell H1) | (go_at_call 46; refine (l03Half_any _ _).mono ?_; rintro e w2 ⟨rfl, rfl⟩))
    go_ret2
    exact ⟨ret_pair (by simp [girthOf, h1, h2]), Bl.then (by go_grown) H1⟩
  obtain ⟨hh1, hh2⟩ := inR_true.1 h2
  cases h3 : inR width 0 (d - 1)
  · go_enter Try.func24, Try.ntmps24
    go_wp2_with (first | (go_at_call 39; refine (l03Widths_any _ _ _ _ _).mono ?_; rintro e w1 ⟨rfl, H1⟩; obtain ⟨hc, hf⟩ := bcell H1) | (go_at_call 46; refine (l03Half_any _ _).mono ?_; rintro e w2 ⟨rfl, rfl⟩) | (go_at_call 47; refine (l00In_any _ _ _ _).mono ?_; rintro e w2 ⟨rfl, rfl⟩))
    go_ret2
    exact ⟨ret_pair (by simp [girthOf, h1, h2, h3]), Bl.then (by go_grown) H1⟩
  obtain ⟨hw1, hw2⟩ := inR_true.1 h3
  go_enter Try.func24, Try.ntmps24
  go_wp2_with (first | (go_at_call 39; refine (l03Widths_any _ _ _ _ _).mono ?_; rintro e w1 ⟨rfl, H1⟩; obtain ⟨hc, hf⟩ := bcell H1) | (go_at_call 46; refine (l03Half_any _ _).mono ?_; rintro e w2 ⟨rfl, rfl⟩) | (go_at_call 47; refine (l00In_any _ _ _ _).mono ?_; rintro e w2 ⟨rfl, rfl⟩) | (go_at_call 48; refine (l03Girth_any _ _ _ _ _ _ _ (by omega) (by omega) (by omega) (by omega) (by omega)).mono ?_; rintro e w3 ⟨rfl, H3⟩))
  go_ret2
  exact ⟨ret_pair (by simp [girthOf, h1, h2, h3]), Bl.then (by go_grown) (Bl.then H1 H3)⟩

theorem pair_some {n k : Nat} {p : Nat → Bool} {r : Int} (h : firstOf n p = some k) (hr : r = (k : Int)) : (match firstOf n p with | some k => ((k : Int), (0 : Int)) | none => (0, 10)) = (r, 0) := by rw [h, hr]
theorem pair_none {n : Nat} {p : Nat → Bool} (h : firstOf n p = none) : (match firstOf n p with | some k => ((k : Int), (0 : Int)) | none => (0, 10)) = (0, 10) := by rw [h]
def GirLow (a b c half g : Int) (k : Nat) : Prop := ∀ j : Nat, j < k → gir a b c half j < g
theorem GirLow.snoc {a b c half g : Int} {k : Nat} (h : GirLow a b c half g k) (hk : ¬ g ≤ gir a b c half k) : GirLow a b c half g (k + 1) := fun j hj => by
  by_cases e : j = k
  · subst e; omega
  · exact h j (by omega)
theorem WidthFor_any (a b c d half g : Int) (w : World) :
    Calls Try.prog 38 #[.agg #[.int .i64 a, .int .i64 b, .int .i64 c, .int .i64 d], .int .i64 half, .int .i64 g] w fun e w' => e = .returned (.tuple #[.int .i64 (widthFor a b c d half g).1, .int .i64 (widthFor a b c d half g).2]) ∧ Below w.heap.size w w' := by
  cases h1 : widthsOk a b c d
  · go_enter Try.func38, Try.ntmps38
    go_wp2_with (go_at_call 15; refine (ValidWidths_any _ _ _ _ _).mono ?_; rintro e w1 ⟨rfl, H1⟩)
    go_ret2
    exact ⟨ret_pair (by simp [widthFor, h1]), Bl.then (by go_grown) H1⟩
  obtain ⟨⟨ha1, ha2⟩, ⟨hb1, hb2⟩, ⟨hc1, hc2⟩, hd1, hd2⟩ := widthsOk_bd h1
  cases h2 : inR half 0 120
  · go_enter Try.func38, Try.ntmps38
    go_wp2_with (first | (go_at_call 15; refine (ValidWidths_any _ _ _ _ _).mono ?_; rintro e w1 ⟨rfl, H1⟩; obtain ⟨hc, hf⟩ := bcell H1) | (go_at_call 49; refine (isHalf_any _ _).mono ?_; rintro e w2 ⟨rfl, rfl⟩))
    go_ret2
    exact ⟨ret_pair (by simp [widthFor, h1, h2]), Bl.then (by go_grown) H1⟩
  obtain ⟨hh1, hh2⟩ := inR_true.1 h2
  cases h3 : inR g 0 5000
  · go_enter Try.func38, Try.ntmps38
    go_wp2_with (first | (go_at_call 15; refine (ValidWidths_any _ _ _ _ _).mono ?_; rintro e w1 ⟨rfl, H1⟩; obtain ⟨hc, hf⟩ := bcell H1) | (go_at_call 49; refine (isHalf_any _ _).mono ?_; rintro e w2 ⟨rfl, rfl⟩) | (go_at_call 40; refine (within_any _ _ _ _).mono ?_; rintro e w2 ⟨rfl, rfl⟩))
    go_ret2
    exact ⟨ret_pair (by simp [widthFor, h1, h2, h3]), Bl.then (by go_grown) H1⟩
  have hfin : ∀ r, (match firstOf d.toNat (fun k => decide (g ≤ gir a b c half k)) with | some k => ((k : Int), (0 : Int)) | none => (0, 10)) = r → widthFor a b c d half g = r := fun r hr => by
    rw [← hr]; simp [widthFor, h1, h2, h3]
  have hfin' := Lib.hid hfin
  clear hfin
  go_enter Try.func38, Try.ntmps38
  go_wp2_with (first | (go_at_call 15; refine (ValidWidths_any _ _ _ _ _).mono ?_; rintro e w1 ⟨rfl, H1⟩; obtain ⟨hc, hf⟩ := bcell H1) | (go_at_call 49; refine (isHalf_any _ _).mono ?_; rintro e w2 ⟨rfl, rfl⟩) | (go_at_call 40; refine (within_any _ _ _ _).mono ?_; rintro e w2 ⟨rfl, rfl⟩))
  clear hc hf h1 h2 h3
  go_loopw [24] (fun i wr => ∃ k : Nat, (k : Int) ≤ d ∧ i = .int .i64 k ∧ GirLow a b c half g k ∧ Below (w.alloc (.cells #[.int .i64 a, .int .i64 b, .int .i64 c, .int .i64 d] 26)).heap.size (w.alloc (.cells #[.int .i64 a, .int .i64 b, .int .i64 c, .int .i64 d] 26)) wr) (fun i _ => d.toNat - (intOf i).toNat)
  case atStart => exact ⟨0, by omega, rfl, fun j hj => by omega, H1⟩
  case round =>
    obtain ⟨k, hk, rfl, hlow, HB⟩ := hrel
    obtain ⟨hc, hf⟩ := bcell HB
    by_cases hlt : (k : Int) < d
    · by_cases hg : g ≤ gir a b c half k
      · go_wp2_with (go_at_call 50; refine (girth_any _ _ _ _ _ _ _ (by omega) (by omega) (by omega) (by omega) (by omega)).mono ?_; rintro e w3 ⟨rfl, H3⟩)
        go_ret2
        exact ⟨ret_pair (hfin'.out _ (pair_some (firstOf_some (by omega) (by simpa using hg) (fun j hj => by have := hlow j hj; simp; omega)) rfl)), Bl.then (by go_grown) (Bl.then HB H3)⟩
      · go_wp2_with (go_at_call 50; refine (girth_any _ _ _ _ _ _ _ (by omega) (by omega) (by omega) (by omega) (by omega)).mono ?_; rintro e w3 ⟨rfl, H3⟩)
        go_roundw
        case rel => exact ⟨k + 1, by omega, by go_num, hlow.snoc (by omega), Bl.then HB H3⟩
        case measure => simp [intOf]; omega
    · go_wp2_with fail
      go_ret2
      exact ⟨ret_pair (hfin'.out _ (pair_none (firstOf_none (fun j hj => by have := hlow j (by omega); simp; omega)))), Bl.then (by go_grown) HB⟩
theorem sWidthFor_any (a b c d half g : Int) (w : World) :
    Calls Try.prog 37 #[.agg #[.int .i64 a, .int .i64 b, .int .i64 c, .int .i64 d], .int .i64 half, .int .i64 g] w fun e w' => e = .returned (.tuple #[.int .i64 (widthFor a b c d half g).1, .int .i64 (widthFor a b c d half g).2]) ∧ Below w.heap.size w w' := by
  cases h1 : widthsOk a b c d
  · go_enter Try.func37, Try.ntmps37
    go_wp2_with (go_at_call 39; refine (l03Widths_any _ _ _ _ _).mono ?_; rintro e w1 ⟨rfl, H1⟩)
    go_ret2
    exact ⟨ret_pair (by simp [widthFor, h1]), Bl.then (by go_grown) H1⟩
  obtain ⟨⟨ha1, ha2⟩, ⟨hb1, hb2⟩, ⟨hc1, hc2⟩, hd1, hd2⟩ := widthsOk_bd h1
  cases h2 : inR half 0 120
  · go_enter Try.func37, Try.ntmps37
    go_wp2_with (first | (go_at_call 39; refine (l03Widths_any _ _ _ _ _).mono ?_; rintro e w1 ⟨rfl, H1⟩; obtain ⟨hc, hf⟩ := bcell H1) | (go_at_call 46; refine (l03Half_any _ _).mono ?_; rintro e w2 ⟨rfl, rfl⟩))
    go_ret2
    exact ⟨ret_pair (by simp [widthFor, h1, h2]), Bl.then (by go_grown) H1⟩
  obtain ⟨hh1, hh2⟩ := inR_true.1 h2
  cases h3 : inR g 0 5000
  · go_enter Try.func37, Try.ntmps37
    go_wp2_with (first | (go_at_call 39; refine (l03Widths_any _ _ _ _ _).mono ?_; rintro e w1 ⟨rfl, H1⟩; obtain ⟨hc, hf⟩ := bcell H1) | (go_at_call 46; refine (l03Half_any _ _).mono ?_; rintro e w2 ⟨rfl, rfl⟩) | (go_at_call 47; refine (l00In_any _ _ _ _).mono ?_; rintro e w2 ⟨rfl, rfl⟩))
    go_ret2
    exact ⟨ret_pair (by simp [widthFor, h1, h2, h3]), Bl.then (by go_grown) H1⟩
  have hfin : ∀ r, (match firstOf d.toNat (fun k => decide (g ≤ gir a b c half k)) with | some k => ((k : Int), (0 : Int)) | none => (0, 10)) = r → widthFor a b c d half g = r := fun r hr => by
    rw [← hr]; simp [widthFor, h1, h2, h3]
  have hfin' := Lib.hid hfin
  clear hfin
  go_enter Try.func37, Try.ntmps37
  go_wp2_with (first | (go_at_call 39; refine (l03Widths_any _ _ _ _ _).mono ?_; rintro e w1 ⟨rfl, H1⟩; obtain ⟨hc, hf⟩ := bcell H1) | (go_at_call 46; refine (l03Half_any _ _).mono ?_; rintro e w2 ⟨rfl, rfl⟩) | (go_at_call 47; refine (l00In_any _ _ _ _).mono ?_; rintro e w2 ⟨rfl, rfl⟩))
  clear hc hf h1 h2 h3
  go_loopw [8] (fun i wr => ∃ k : Nat, (k : Int) ≤ d ∧ i = .int .i64 k ∧ GirLow a b c half g k ∧ Below (w.alloc (.cells #[.int .i64 a, .int .i64 b, .int .i64 c, .int .i64 d] 26)).heap.size (w.alloc (.cells #[.int .i64 a, .int .i64 b, .int .i64 c, .int .i64 d] 26)) wr) (fun i _ => d.toNat - (intOf i).toNat)
  case atStart => exact ⟨0, by omega, rfl, fun j hj => by omega, H1⟩
  case round =>
    obtain ⟨k, hk, rfl, hlow, HB⟩ := hrel
    obtain ⟨hc, hf⟩ := bcell HB
    by_cases hlt : (k : Int) < d
    · by_cases hg : g ≤ gir a b c half k
      · go_wp2_with (go_at_call 48; refine (l03Girth_any _ _ _ _ _ _ _ (by omega) (by omega) (by omega) (by omega) (by omega)).mono ?_; rintro e w3 ⟨rfl, H3⟩)
        go_ret2
        exact ⟨ret_pair (hfin'.out _ (pair_some (firstOf_some (by omega) (by simpa using hg) (fun j hj => by have := hlow j hj; simp; omega)) rfl)), Bl.then (by go_grown) (Bl.then HB H3)⟩
      · go_wp2_with (go_at_call 48; refine (l03Girth_any _ _ _ _ _ _ _ (by omega) (by omega) (by omega) (by omega) (by omega)).mono ?_; rintro e w3 ⟨rfl, H3⟩)
        go_roundw
        case rel => exact ⟨k + 1, by omega, by go_num, hlow.snoc (by omega), Bl.then HB H3⟩
        case measure => simp [intOf]; omega
    · go_wp2_with fail
      go_ret2
      exact ⟨ret_pair (hfin'.out _ (pair_none (firstOf_none (fun j hj => by have := hlow j (by omega); simp; omega)))), Bl.then (by go_grown) HB⟩
end Go.Proofs.Ytclfgkpllliacaa
