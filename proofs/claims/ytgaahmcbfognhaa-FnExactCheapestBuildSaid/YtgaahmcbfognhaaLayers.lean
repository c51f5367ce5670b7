/-
  Layers: a list that rises strictly within bounds, for the program and for the reference; for every slice that reads as the given list.
-/
import Derived.Test.YtgaahmcbfognhaaFeet
import Derived.BigQuiet
import Derived.Deep.QuietTactic
namespace Go.Proofs.Ytgaahmcbfognhaa
open Go.RowKit
set_option maxHeartbeats 400000

/-- The first k elements lie within bounds and rise. -/
def RiseTo (zs : List Int) (lo hi : Int) (k : Nat) : Prop := (∀ j, j < k → inR (ix zs j) lo hi = true) ∧ ∀ j, 0 < j → j < k → ix zs (j - 1) < ix zs j
noncomputable def riseB (zs : List Int) (lo hi : Int) : Bool := @decide (RiseTo zs lo hi zs.length) (Classical.propDecidable _)
theorem riseB_yes {zs : List Int} {lo hi : Int} (h : RiseTo zs lo hi zs.length) : riseB zs lo hi = true := @decide_eq_true _ (Classical.propDecidable _) h
theorem riseB_no {zs : List Int} {lo hi : Int} (h : ¬ RiseTo zs lo hi zs.length) : riseB zs lo hi = false := @decide_eq_false _ (Classical.propDecidable _) h
theorem riseB_true {zs : List Int} {lo hi : Int} (h : riseB zs lo hi = true) : RiseTo zs lo hi zs.length := @of_decide_eq_true _ (Classical.propDecidable _) h
theorem RiseTo.snoc {zs : List Int} {lo hi : Int} {k : Nat} (h : RiseTo zs lo hi k) (h1 : inR (ix zs k) lo hi = true) (h2 : 0 < k → ix zs (k - 1) < ix zs k) : RiseTo zs lo hi (k + 1) := by
  refine ⟨fun j hj => ?_, fun j h0 hj => ?_⟩
  · by_cases e : j = k
    · subst e; exact h1
    · exact h.1 j (by omega)
  · by_cases e : j = k
    · subst e; exact h2 h0
    · exact h.2 j h0 (by omega)
noncomputable def layersOk (zs : List Int) : Bool := inR zs.length 1 8 && riseB zs 1 200
theorem isIncreasing_any (A : Option Addr) (n c : Nat) (zs : List Int) (lo hi : Int) (w : World) (h : Rd w 1 A n (ints zs)) (hn : n ≤ 9223372036854775807) :
    Calls Try.prog 34 #[.slice A n c, .int .i64 lo, .int .i64 hi] w fun e w' => e = .returned (.bool (riseB zs lo hi)) ∧ Below w.heap.size w w' := by
  have hlen := Lib.hid h.len
  go_enter Try.func34, Try.ntmps34
  go_wp2_with fail
  go_loopw [11] (fun i wr => ∃ k : Nat, k ≤ n ∧ RiseTo zs lo hi k ∧ i = .int .i64 k ∧ Below w.heap.size w wr) (fun i _ => n - (intOf i).toNat)
  case atStart => exact ⟨0, by omega, ⟨fun j hj => by omega, fun j _ hj => by omega⟩, rfl, Below.refl _ _⟩
  case round =>
    obtain ⟨k, hk, hri, rfl, HB⟩ := hrel
    by_cases hlt : k < n
    · cases hin : inR (ix zs k) lo hi
      · obtain ⟨b, off, rfl, hb, hcell⟩ := (h.below HB).int hlt
        have hin' := Lib.hid hin
        · go_wp2_with (go_at_call 33; refine (within_any _ _ _ _).mono ?_; rintro e w2 ⟨rfl, rfl⟩)
          go_ret
          exact ⟨ret_bool (riseB_no fun hh => by have := hh.1 k (by rw [hlen.out]; exact hlt); rw [hin'.out] at this; cases this).symm, HB⟩
      · have hin' := Lib.hid hin
        by_cases h0 : 0 < k
        · obtain ⟨b, off, e1, hb, hcell⟩ := (h.below HB).int hlt
          obtain ⟨b', off', e2, hb', hcell'⟩ := (h.below HB).int (k := k - 1) (by omega)
          subst e1
          simp only [Option.some.injEq, Addr.mk.injEq, and_true] at e2
          obtain ⟨rfl, rfl⟩ := e2
          by_cases hlss : ix zs k ≤ ix zs (k - 1)
          · go_wp2_with (go_at_call 33; refine (within_any _ _ _ _).mono ?_; rintro e w2 ⟨rfl, rfl⟩)
            go_ret
            exact ⟨ret_bool (riseB_no fun hh => by have := hh.2 k h0 (by rw [hlen.out]; exact hlt); omega).symm, HB⟩
          · go_wp2_with (go_at_call 33; refine (within_any _ _ _ _).mono ?_; rintro e w2 ⟨rfl, rfl⟩)
            go_roundw
            case rel => exact ⟨k + 1, by omega, hri.snoc hin'.out (fun _ => by omega), by go_num, HB⟩
            case measure => simp [intOf]; omega
        · obtain ⟨b, off, rfl, hb, hcell⟩ := (h.below HB).int hlt
          · go_wp2_with (go_at_call 33; refine (within_any _ _ _ _).mono ?_; rintro e w2 ⟨rfl, rfl⟩)
            go_roundw
            case rel => exact ⟨k + 1, by omega, hri.snoc hin'.out (fun h1 => absurd h1 h0), by go_num, HB⟩
            case measure => simp [intOf]; omega
    · go_wp2_with fail
      go_ret
      exact ⟨ret_bool (riseB_yes (by rw [hlen.out, show n = k by omega]; exact hri)).symm, HB⟩
theorem l00Rises_any (A : Option Addr) (n c : Nat) (zs : List Int) (lo hi : Int) (w : World) (h : Rd w 1 A n (ints zs)) (hn : n ≤ 9223372036854775807) :
    Calls Try.prog 38 #[.slice A n c, .int .i64 lo, .int .i64 hi] w fun e w' => e = .returned (.bool (riseB zs lo hi)) ∧ Below w.heap.size w w' := by
  have hlen := Lib.hid h.len
  go_enter Try.func38, Try.ntmps38
  go_wp2_with fail
  go_loopw [7] (fun i wr => ∃ k : Nat, k ≤ n ∧ RiseTo zs lo hi k ∧ i = .int .i64 k ∧ Below w.heap.size w wr) (fun i _ => n - (intOf i).toNat)
  case atStart => exact ⟨0, by omega, ⟨fun j hj => by omega, fun j _ hj => by omega⟩, rfl, Below.refl _ _⟩
  case round =>
    obtain ⟨k, hk, hri, rfl, HB⟩ := hrel
    by_cases hlt : k < n
    · cases hin : inR (ix zs k) lo hi
      · obtain ⟨b, off, rfl, hb, hcell⟩ := (h.below HB).int hlt
        have hin' := Lib.hid hin
        · go_wp2_with fail; go_quiet ((go_at_call 24; exact Calls.quiet_of_same ((l00In_any _ _ _ _).mono fun _ _ h => ⟨h.1, h.2.symm⟩))); go_wp2_with fail
          go_ret
          exact ⟨ret_bool (riseB_no fun hh => by have := hh.1 k (by rw [hlen.out]; exact hlt); rw [hin'.out] at this; cases this).symm, below_drewN HB _⟩
      · have hin' := Lib.hid hin
        by_cases h0 : 0 < k
        · obtain ⟨b, off, e1, hb, hcell⟩ := (h.below HB).int hlt
          obtain ⟨b', off', e2, hb', hcell'⟩ := (h.below HB).int (k := k - 1) (by omega)
          subst e1
          simp only [Option.some.injEq, Addr.mk.injEq, and_true] at e2
          obtain ⟨rfl, rfl⟩ := e2
          have f1 : IntKind.i64.wrap ((k : Int) - 1) = (k : Int) - 1 := IntWalk.i64_in _ (by omega)
          have f2 : ((k : Int) - 1).toNat = k - 1 := by omega
          have f3 : (1 : Int) ≤ k := by omega
          have f4 : (k : Int) - 1 < n := by omega
          have f5 : decide ((0 : Int) < k) = true := by simp; omega
          by_cases hlss : ix zs k ≤ ix zs (k - 1)
          · go_wp2_with fail; go_quiet ((go_at_call 24; exact Calls.quiet_of_same ((l00In_any _ _ _ _).mono fun _ _ h => ⟨h.1, h.2.symm⟩))); go_wp2_with fail
            go_ret
            exact ⟨ret_bool (riseB_no fun hh => by have := hh.2 k h0 (by rw [hlen.out]; exact hlt); omega).symm, below_drewN HB _⟩
          · go_wp2_with fail; go_quiet ((go_at_call 24; exact Calls.quiet_of_same ((l00In_any _ _ _ _).mono fun _ _ h => ⟨h.1, h.2.symm⟩))); go_wp2_with fail
            go_roundw
            case rel => exact ⟨k + 1, by omega, hri.snoc hin'.out (fun _ => by omega), by go_num, below_drewN HB _⟩
            case measure => simp [intOf]; omega
        · obtain ⟨b, off, rfl, hb, hcell⟩ := (h.below HB).int hlt
          · go_wp2_with fail; go_quiet ((go_at_call 24; exact Calls.quiet_of_same ((l00In_any _ _ _ _).mono fun _ _ h => ⟨h.1, h.2.symm⟩))); go_wp2_with fail
            go_roundw
            case rel => exact ⟨k + 1, by omega, hri.snoc hin'.out (fun h1 => absurd h1 h0), by go_num, below_drewN HB _⟩
            case measure => simp [intOf]; omega
    · go_wp2_with fail
      go_ret
      exact ⟨ret_bool (riseB_yes (by rw [hlen.out, show n = k by omega]; exact hri)).symm, HB⟩
theorem ValidLayers_any (A : Option Addr) (n c : Nat) (zs : List Int) (w : World) (h : Rd w 1 A n (ints zs)) (hn : n ≤ 9223372036854775807) :
    Calls Try.prog 25 #[.slice A n c] w fun e w' => e = .returned (.bool (layersOk zs)) ∧ Below w.heap.size w w' := by
  have hlen := Lib.hid h.len
  cases h1 : inR (n : Int) 1 8
  · go_enter Try.func25, Try.ntmps25
    go_wp2_with (go_at_call 33; refine (within_any _ _ _ _).mono ?_; rintro e w2 ⟨rfl, rfl⟩)
    go_ret
    exact ⟨ret_bool (by simp [layersOk, hlen.out, h1]), Below.refl _ _⟩
  · go_enter Try.func25, Try.ntmps25
    go_wp2_with (first | (go_at_call 33; refine (within_any _ _ _ _).mono ?_; rintro e w2 ⟨rfl, rfl⟩) | (go_at_call 34; refine (isIncreasing_any _ _ _ _ _ _ _ h hn).mono ?_; rintro e w3 ⟨rfl, H3⟩))
    go_ret
    exact ⟨ret_bool (by simp [layersOk, hlen.out, h1]), H3⟩
theorem l06Ok_any (A : Option Addr) (n c : Nat) (zs : List Int) (w : World) (h : Rd w 1 A n (ints zs)) (hn : n ≤ 9223372036854775807) :
    Calls Try.prog 31 #[.slice A n c] w fun e w' => e = .returned (.bool (layersOk zs)) ∧ Below w.heap.size w w' := by
  have hlen := Lib.hid h.len
  cases h1 : inR (n : Int) 1 8
  · go_enter Try.func31, Try.ntmps31
    go_wp2_with (go_at_call 24; refine (l00In_any _ _ _ _).mono ?_; rintro e w2 ⟨rfl, rfl⟩)
    go_ret
    exact ⟨ret_bool (by simp [layersOk, hlen.out, h1]), Below.refl _ _⟩
  · go_enter Try.func31, Try.ntmps31
    go_wp2_with (first | (go_at_call 24; refine (l00In_any _ _ _ _).mono ?_; rintro e w2 ⟨rfl, rfl⟩) | (go_at_call 38; refine (l00Rises_any _ _ _ _ _ _ _ h hn).mono ?_; rintro e w3 ⟨rfl, H3⟩))
    go_ret
    exact ⟨ret_bool (by simp [layersOk, hlen.out, h1]), H3⟩
end Go.Proofs.Ytgaahmcbfognhaa
