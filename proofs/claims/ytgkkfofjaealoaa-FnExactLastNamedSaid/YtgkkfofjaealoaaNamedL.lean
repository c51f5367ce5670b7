/-
  LastNamed of the program and of the reference; the condition of a slice argument is that it reads as the given list.
-/
import Derived.Test.YtgkkfofjaealoaaPlace
namespace Go.Proofs.Ytgkkfofjaealoaa
open Go.RowKit
set_option maxHeartbeats 1600000

noncomputable def lastNamedR (xs : List LastD) (t : ByteArray) : Int × Int :=
  if lastsOk xs = false then (0, 1) else if nameOk t = false then (0, 2) else match findAt xs t with | some k => ((k : Int), 0) | none => (0, 3)
theorem LastNamed_any (A : Option Addr) (n c : Nat) (xs : List LastD) (t : ByteArray) (w : World) (h : Rd w 6 A n (lasts xs)) (hn : n ≤ 1048576) (hx : ∀ x ∈ xs, x.s.size ≤ maxLen) (ht : t.size ≤ maxLen) :
    Calls Try.prog 56 #[.slice A n c, .string t] w fun e w' => e = .returned (.tuple #[.int .i64 (lastNamedR xs t).1, .int .i64 (lastNamedR xs t).2]) ∧ Below w.heap.size w w' := by
  cases h1 : lastsOk xs
  · have hr := Lib.hid (show lastNamedR xs t = (0, 1) by simp [lastNamedR, h1])
    go_enter Try.func56, Try.ntmps56
    go_wp2_with fail
    refine (ValidLasts_any _ _ _ _ _ h (by omega) hx).mono ?_
    rintro e w1 ⟨rfl, hb1⟩
    go_wp2_with fail
    go_ret2
    exact ⟨ret_pair hr.out, hb1⟩
  cases h2 : nameOk t
  · have hr := Lib.hid (show lastNamedR xs t = (0, 2) by simp [lastNamedR, h1, h2])
    go_enter Try.func56, Try.ntmps56
    go_wp2_with fail
    refine (ValidLasts_any _ _ _ _ _ h (by omega) hx).mono ?_
    rintro e w1 ⟨rfl, hb1⟩
    go_wp2_with fail
    refine (IsName_any _ ht _).mono ?_
    rintro e w9 ⟨rfl, rfl⟩
    go_wp2_with fail
    go_ret2
    exact ⟨ret_pair hr.out, hb1⟩
  have hris := rising_of h1
  have hfk := find_of_known (t := t) hris
  cases hk : knownAt xs t
  · have hr := Lib.hid (show lastNamedR xs t = (0, 3) by rw [hk] at hfk; simp [lastNamedR, h1, h2, hfk])
    have hris' := Lib.hid hris
    clear hris hfk
    go_enter Try.func56, Try.ntmps56
    go_wp2_with fail
    refine (ValidLasts_any _ _ _ _ _ h (by omega) hx).mono ?_
    rintro e w1 ⟨rfl, hb1⟩
    go_wp2_with fail
    refine (IsName_any _ ht _).mono ?_
    rintro e w9 ⟨rfl, rfl⟩
    go_wp2_with fail
    refine (lastPlace_any _ _ _ _ _ _ (h.below hb1) hn hris'.out).mono ?_
    rintro e w2 ⟨rfl, hb2⟩
    go_wp2_with fail
    go_ret2
    exact ⟨ret_pair hr.out, Bl.then hb1 hb2⟩
  · have hr := Lib.hid (show lastNamedR xs t = (((cutAt xs t : Nat) : Int), 0) by rw [hk] at hfk; simp [lastNamedR, h1, h2, hfk])
    have hris' := Lib.hid hris
    clear hris hfk
    go_enter Try.func56, Try.ntmps56
    go_wp2_with fail
    refine (ValidLasts_any _ _ _ _ _ h (by omega) hx).mono ?_
    rintro e w1 ⟨rfl, hb1⟩
    go_wp2_with fail
    refine (IsName_any _ ht _).mono ?_
    rintro e w9 ⟨rfl, rfl⟩
    go_wp2_with fail
    refine (lastPlace_any _ _ _ _ _ _ (h.below hb1) hn hris'.out).mono ?_
    rintro e w2 ⟨rfl, hb2⟩
    have hcl : cutAt xs t ≤ 9223372036854775807 := by
      simp only [knownAt, Bool.and_eq_true, decide_eq_true_eq] at hk
      have := h.lasts_length
      omega
    go_wp2_with fail
    go_ret2
    exact ⟨ret_pair hr.out, Bl.then hb1 hb2⟩
theorem sLastNamed_any (A : Option Addr) (n c : Nat) (xs : List LastD) (t : ByteArray) (w : World) (h : Rd w 6 A n (lasts xs)) (hn : n ≤ 1048576) (hx : ∀ x ∈ xs, x.s.size ≤ maxLen) (ht : t.size ≤ maxLen) :
    Calls Try.prog 55 #[.slice A n c, .string t] w fun e w' => e = .returned (.tuple #[.int .i64 (lastNamedR xs t).1, .int .i64 (lastNamedR xs t).2]) ∧ Below w.heap.size w w' := by
  cases h1 : lastsOk xs
  · have hr := Lib.hid (show lastNamedR xs t = (0, 1) by simp [lastNamedR, h1])
    go_enter Try.func55, Try.ntmps55
    go_wp2_with fail
    refine (l04Ok_any _ _ _ _ _ h (by omega) hx).mono ?_
    rintro e w1 ⟨rfl, hb1⟩
    go_wp2_with fail
    go_ret2
    exact ⟨ret_pair hr.out, hb1⟩
  cases h2 : nameOk t
  · have hr := Lib.hid (show lastNamedR xs t = (0, 2) by simp [lastNamedR, h1, h2])
    go_enter Try.func55, Try.ntmps55
    go_wp2_with fail
    refine (l04Ok_any _ _ _ _ _ h (by omega) hx).mono ?_
    rintro e w1 ⟨rfl, hb1⟩
    go_wp2_with fail
    refine (sIsName_any _ ht _).mono ?_
    rintro e w9 ⟨rfl, rfl⟩
    go_wp2_with fail
    go_ret2
    exact ⟨ret_pair hr.out, hb1⟩
  have hris := rising_of h1
  have hfk := find_of_known (t := t) hris
  clear hfk hris
  have hcase : (∃ k : Nat, findAt xs t = some k) ∨ findAt xs t = none := by cases findAt xs t <;> simp
  rcases hcase with ⟨k, hk⟩ | hk
  · have hr := Lib.hid (show lastNamedR xs t = ((k : Int), 0) by simp [lastNamedR, h1, h2, hk])
    have hf : findI xs t = (k : Int) := by simp [findI, hk]
    clear hk
    go_enter Try.func55, Try.ntmps55
    go_wp2_with fail
    refine (l04Ok_any _ _ _ _ _ h (by omega) hx).mono ?_
    rintro e w1 ⟨rfl, hb1⟩
    go_wp2_with fail
    refine (sIsName_any _ ht _).mono ?_
    rintro e w9 ⟨rfl, rfl⟩
    go_wp2_with fail
    refine (l04Find_any _ _ _ _ _ _ (h.below hb1) hn).mono ?_
    rintro e w9 ⟨rfl, rfl⟩
    go_wp2_with fail
    go_ret2
    exact ⟨ret_pair hr.out, hb1⟩
  · have hr := Lib.hid (show lastNamedR xs t = (0, 3) by simp [lastNamedR, h1, h2, hk])
    have hf : findI xs t = -1 := by simp [findI, hk]
    clear hk
    go_enter Try.func55, Try.ntmps55
    go_wp2_with fail
    refine (l04Ok_any _ _ _ _ _ h (by omega) hx).mono ?_
    rintro e w1 ⟨rfl, hb1⟩
    go_wp2_with fail
    refine (sIsName_any _ ht _).mono ?_
    rintro e w9 ⟨rfl, rfl⟩
    go_wp2_with fail
    refine (l04Find_any _ _ _ _ _ _ (h.below hb1) hn).mono ?_
    rintro e w9 ⟨rfl, rfl⟩
    go_wp2_with fail
    go_ret2
    exact ⟨ret_pair hr.out, hb1⟩
end Go.Proofs.Ytgkkfofjaealoaa
