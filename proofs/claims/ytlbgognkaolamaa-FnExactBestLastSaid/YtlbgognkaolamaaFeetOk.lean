/-
  Which lists of feet are valid, for the program and for the reference; the condition of a slice argument is that it reads as the given list.
-/
import Derived.Test.YtlbgognkaolamaaFootW
namespace Go.Proofs.Ytlbgognkaolamaa
open Go.RowKit
set_option maxHeartbeats 800000

def fOk (x : FootD) : Bool := footOk x.l x.b x.i x.h
def feetOk (xs : List FootD) : Bool := xs.all fOk && decide (xs.length ≤ 30)
def AllF (xs : List FootD) (k : Nat) : Prop := ∀ j, j < k → fOk (feetAt xs j) = true
theorem AllF.snoc {xs : List FootD} {k : Nat} (h : AllF xs k) (hk : fOk (feetAt xs k) = true) : AllF xs (k + 1) := fun j hj => by
  by_cases e : j = k
  · subst e; exact hk
  · exact h j (by omega)
theorem AllF.all {xs : List FootD} (h : AllF xs xs.length) : xs.all fOk = true := by
  rw [List.all_eq_true]
  intro x hx
  obtain ⟨j, hj, rfl⟩ := List.getElem_of_mem hx
  rw [feet_eq hj]
  exact h j hj
theorem not_all {xs : List FootD} {k : Nat} (hk : k < xs.length) (h : fOk (feetAt xs k) = false) : xs.all fOk = false := by
  rw [List.all_eq_false]
  refine ⟨xs[k], List.getElem_mem hk, ?_⟩
  rw [feet_eq hk, h]
  simp
theorem feetOk_bd {xs : List FootD} (h : feetOk xs = true) : xs.length ≤ 30 ∧ ∀ k, k < xs.length → fOk (feetAt xs k) = true := by
  simp only [feetOk, Bool.and_eq_true, decide_eq_true_eq, List.all_eq_true] at h
  refine ⟨h.2, fun k hk => ?_⟩
  rw [← feet_eq hk]
  exact h.1 _ (List.getElem_mem hk)

theorem ValidFeet1_any (a b c d : Int) (w : World) :
    Calls Try.prog 129 #[.agg #[.int .i64 a, .int .i64 b, .int .i64 c, .int .i64 d]] w fun e w' => e = .returned (.bool (!footOk a b c d)) ∧ Below w.heap.size w w' := by
  go_enter Try.func129, Try.ntmps129
  go_wp2_with fail
  refine (ValidFoot_any _ _ _ _ _).mono ?_
  rintro e w1 ⟨rfl, hb1⟩
  go_wp2_with fail
  go_ret
  exact ⟨rfl, Bl.then (by go_grown) hb1⟩
def FirstBad (xs : List FootD) (e : Ending) : Prop := ∃ r : Int, e = .returned (.int .i64 r) ∧ decide (0 ≤ r) = !xs.all fOk
theorem IndexFunc_vf (A : Option Addr) (n c : Nat) (xs : List FootD) (w : World) (h : Rd w 4 A n (feet xs)) (hn : n ≤ 9223372036854775807) :
    Calls Try.prog 104 #[.slice A n c, .func (.func 129) #[] #[]] w fun e w' => FirstBad xs e ∧ Below w.heap.size w w' := by
  have hlen := Lib.hid h.feet_length
  go_enter Try.func104, Try.ntmps104
  go_wp2_with fail
  go_loopw [8] (fun i wr => ∃ k : Nat, k ≤ n ∧ AllF xs k ∧ i = .int .i64 k ∧ Below w.heap.size w wr) (fun i _ => n - (intOf i).toNat)
  case atStart => exact ⟨0, by omega, fun j h1 => by omega, rfl, Below.refl _ _⟩
  case round =>
    obtain ⟨k, hk, hall, rfl, HB⟩ := hrel
    by_cases hlt : k < n
    · obtain ⟨b, off, rfl, hb, h0, h1, h2, h3⟩ := (h.below HB).feet hlt
      cases hin : fOk (feetAt xs k)
      · have hin2 : footOk (feetAt xs k).l (feetAt xs k).b (feetAt xs k).i (feetAt xs k).h = false := hin
        have hin' := Lib.hid hin
        go_wp2_with fail
        refine (ValidFeet1_any _ _ _ _ _).mono ?_
        rintro e w2 ⟨rfl, hb2⟩
        go_wp2_with fail
        go_ret
        exact ⟨⟨_, rfl, by rw [not_all (k := k) (by rw [hlen.out]; exact hlt) hin'.out]; simp⟩, Bl.then HB hb2⟩
      · have hin2 : footOk (feetAt xs k).l (feetAt xs k).b (feetAt xs k).i (feetAt xs k).h = true := hin
        have hin' := Lib.hid hin
        go_wp2_with fail
        refine (ValidFeet1_any _ _ _ _ _).mono ?_
        rintro e w2 ⟨rfl, hb2⟩
        go_wp2_with fail
        go_roundw
        case rel => exact ⟨k + 1, by omega, hall.snoc hin'.out, by go_num, Bl.then HB hb2⟩
        case measure => simp [intOf]; omega
    · go_wp2_with fail
      go_ret
      exact ⟨⟨_, rfl, by rw [AllF.all (fun j hj => hall j (by have := hlen.out; omega))]; rfl⟩, HB⟩
theorem ContainsFunc_vf (A : Option Addr) (n c : Nat) (xs : List FootD) (w : World) (h : Rd w 4 A n (feet xs)) (hn : n ≤ 9223372036854775807) :
    Calls Try.prog 128 #[.slice A n c, .func (.func 129) #[] #[]] w fun e w' => e = .returned (.bool (!xs.all fOk)) ∧ Below w.heap.size w w' := by
  go_enter Try.func128, Try.ntmps128
  go_wp2_with fail
  refine (IndexFunc_vf _ _ _ _ _ h hn).mono ?_
  rintro e w2 ⟨⟨r, rfl, hr⟩, hb2⟩
  have hr' := Lib.hid hr
  clear hr
  go_wp2_with fail
  go_ret
  exact ⟨ret_bool hr'.out, hb2⟩
theorem ValidFeet_any (A : Option Addr) (n c : Nat) (xs : List FootD) (w : World) (h : Rd w 4 A n (feet xs)) (hn : n ≤ 9223372036854775807) :
    Calls Try.prog 101 #[.slice A n c] w fun e w' => e = .returned (.bool (feetOk xs)) ∧ Below w.heap.size w w' := by
  have hlen := Lib.hid h.feet_length
  by_cases hle : n ≤ 30
  · have hr := Lib.hid (show feetOk xs = xs.all fOk by simp [feetOk, hlen.out, hle])
    go_enter Try.func101, Try.ntmps101
    go_wp2_with fail
    refine (ContainsFunc_vf _ _ _ _ _ h hn).mono ?_
    rintro e w2 ⟨rfl, hb2⟩
    go_wp2_with fail
    go_ret
    exact ⟨ret_bool (by rw [hr.out]), hb2⟩
  · have hr := Lib.hid (show feetOk xs = false by simp [feetOk, hlen.out]; intro _; omega)
    go_enter Try.func101, Try.ntmps101
    go_wp2_with fail
    go_ret
    exact ⟨ret_bool hr.out.symm, Below.refl _ _⟩
theorem l02Ok_any (A : Option Addr) (n c : Nat) (xs : List FootD) (w : World) (h : Rd w 4 A n (feet xs)) (hn : n ≤ 9223372036854775807) :
    Calls Try.prog 95 #[.slice A n c] w fun e w' => e = .returned (.bool (feetOk xs)) ∧ Below w.heap.size w w' := by
  have hlen := Lib.hid h.feet_length
  go_enter Try.func95, Try.ntmps95
  go_wp2_with fail
  go_loopw [3] (fun i wr => ∃ k : Nat, k ≤ n ∧ AllF xs k ∧ i = .int .i64 k ∧ Below w.heap.size w wr) (fun i _ => n - (intOf i).toNat)
  case atStart => exact ⟨0, by omega, fun j h1 => by omega, rfl, Below.refl _ _⟩
  case round =>
    obtain ⟨k, hk, hall, rfl, HB⟩ := hrel
    by_cases hlt : k < n
    · obtain ⟨b, off, rfl, hb, h0, h1, h2, h3⟩ := (h.below HB).feet hlt
      cases hin : fOk (feetAt xs k)
      · have hin2 : footOk (feetAt xs k).l (feetAt xs k).b (feetAt xs k).i (feetAt xs k).h = false := hin
        have hin' := Lib.hid (show feetOk xs = false by rw [feetOk, not_all (k := k) (by rw [hlen.out]; exact hlt) hin]; rfl)
        clear hin
        go_wp2_with fail
        refine (l02Foot_any _ _ _ _ _).mono ?_
        rintro e w2 ⟨rfl, hb2⟩
        go_wp2_with fail
        go_ret
        exact ⟨ret_bool hin'.out.symm, Bl.then HB hb2⟩
      · have hin2 : footOk (feetAt xs k).l (feetAt xs k).b (feetAt xs k).i (feetAt xs k).h = true := hin
        have hin' := Lib.hid hin
        clear hin
        go_wp2_with fail
        refine (l02Foot_any _ _ _ _ _).mono ?_
        rintro e w2 ⟨rfl, hb2⟩
        go_wp2_with fail
        go_roundw
        case rel => exact ⟨k + 1, by omega, hall.snoc hin'.out, by go_num, Bl.then HB hb2⟩
        case measure => simp [intOf]; omega
    · obtain rfl : k = n := by omega
      have hr := Lib.hid (show feetOk xs = decide (k ≤ 30) by rw [feetOk, AllF.all (fun j hj => hall j (by have := hlen.out; omega)), hlen.out]; simp)
      go_wp2_with fail
      go_ret
      exact ⟨ret_bool (by rw [hr.out, Bool.eq_iff_iff]; simp; try omega), HB⟩
end Go.Proofs.Ytlbgognkaolamaa
