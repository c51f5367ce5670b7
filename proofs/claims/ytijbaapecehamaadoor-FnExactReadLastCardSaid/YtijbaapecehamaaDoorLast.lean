/-
  Lasts: the foot of a last, which lasts are valid, for the program and for the reference; names are any strings that Go can hold.
-/
import Derived.Test.YtijbaapecehamaaDoorFeet
import Derived.Test.YtijbaapecehamaaDoorName
namespace Go.Proofs.YtijbaapecehamaaDoor
open Go.RowKit
set_option maxHeartbeats 400000

noncomputable def lastOk (s : ByteArray) (l b i h p : Int) : Bool := nameOk s && footOk l b i h && inR p 0 1000
theorem footOk_bd {a b c d : Int} (h : footOk a b c d = true) : (500 ≤ a ∧ a ≤ 5000) ∧ (500 ≤ b ∧ b ≤ 5000) ∧ (500 ≤ c ∧ c ≤ 5000) ∧ (500 ≤ d ∧ d ≤ 5000) := by
  simp only [footOk, Bool.and_eq_true, inR_true] at h
  omega
theorem lastOk_bd {s : ByteArray} {l b i h p : Int} (hh : lastOk s l b i h p = true) : nameOk s = true ∧ (500 ≤ l ∧ l ≤ 5000) ∧ (500 ≤ b ∧ b ≤ 5000) ∧ (500 ≤ i ∧ i ≤ 5000) ∧ (500 ≤ h ∧ h ≤ 5000) ∧ (0 ≤ p ∧ p ≤ 1000) := by
  simp only [lastOk, Bool.and_eq_true] at hh
  have h1 := footOk_bd hh.1.2
  have h2 := inR_true.1 hh.2
  exact ⟨hh.1.1, h1.1, h1.2.1, h1.2.2.1, h1.2.2.2, h2⟩
theorem Lfoot_any (s : ByteArray) (l b i h p : Int) (w : World) :
    Calls Tryd.prog 77 #[.agg #[.string s, .int .i64 l, .int .i64 b, .int .i64 i, .int .i64 h, .int .i64 p]] w fun e w' => e = .returned (.agg #[.int .i64 l, .int .i64 b, .int .i64 i, .int .i64 h]) ∧ Below w.heap.size w w' := by
  go_enter Tryd.func77, Tryd.ntmps77
  go_wp2
  go_returns
  refine ⟨rfl, ?_⟩
  go_grown
theorem l04Foot_any (s : ByteArray) (l b i h p : Int) (w : World) :
    Calls Tryd.prog 92 #[.agg #[.string s, .int .i64 l, .int .i64 b, .int .i64 i, .int .i64 h, .int .i64 p]] w fun e w' => e = .returned (.agg #[.int .i64 l, .int .i64 b, .int .i64 i, .int .i64 h]) ∧ Below w.heap.size w w' := by
  go_enter Tryd.func92, Tryd.ntmps92
  go_wp2
  go_returns
  refine ⟨rfl, ?_⟩
  go_grown
theorem validLast_any (s : ByteArray) (l b i h p : Int) (w : World) (hs : s.size ≤ maxLen) :
    Calls Tryd.prog 76 #[.agg #[.string s, .int .i64 l, .int .i64 b, .int .i64 i, .int .i64 h, .int .i64 p]] w fun e w' => e = .returned (.bool (lastOk s l b i h p)) ∧ Below w.heap.size w w' := by
  cases h1 : nameOk s
  · go_enter Tryd.func76, Tryd.ntmps76
    go_wp2_with (go_at_call 93; refine (IsName_any _ hs _).mono ?_; rintro e w' ⟨rfl, rfl⟩)
    go_ret
    refine ⟨ret_bool (by simp [lastOk, h1]), ?_⟩
    go_grown
  cases h2 : footOk l b i h <;> cases h3 : inR p 0 1000 <;>
  ( go_enter Tryd.func76, Tryd.ntmps76
    go_wp2_with fail
    refine (IsName_any _ hs _).mono ?_
    rintro e w' ⟨rfl, rfl⟩
    go_wp2_with fail
    refine (Lfoot_any _ _ _ _ _ _ _).mono ?_
    rintro e w1 ⟨rfl, H1⟩
    obtain ⟨hc, hf⟩ := bcell H1
    go_wp2_with fail
    refine (ValidFoot_any _ _ _ _ _).mono ?_
    rintro e w2 ⟨rfl, hb⟩
    have H2 := Bl.then H1 hb
    clear hc hf hb
    obtain ⟨hc, hf⟩ := bcell H2
    go_wp2_with (go_at_call 50; refine (within_any _ _ _ _).mono ?_; rintro e w' ⟨rfl, rfl⟩)
    go_ret
    exact ⟨ret_bool (by simp [lastOk, h1, h2, h3]), Bl.then (by go_grown) H2⟩)
theorem l04One_any (s : ByteArray) (l b i h p : Int) (w : World) (hs : s.size ≤ maxLen) :
    Calls Tryd.prog 74 #[.agg #[.string s, .int .i64 l, .int .i64 b, .int .i64 i, .int .i64 h, .int .i64 p]] w fun e w' => e = .returned (.bool (lastOk s l b i h p)) ∧ Below w.heap.size w w' := by
  cases h1 : nameOk s
  · go_enter Tryd.func74, Tryd.ntmps74
    go_wp2_with (go_at_call 91; refine (sIsName_any _ hs _).mono ?_; rintro e w' ⟨rfl, rfl⟩)
    go_ret
    refine ⟨ret_bool (by simp [lastOk, h1]), ?_⟩
    go_grown
  cases h2 : footOk l b i h <;> cases h3 : inR p 0 1000 <;>
  ( go_enter Tryd.func74, Tryd.ntmps74
    go_wp2_with fail
    refine (sIsName_any _ hs _).mono ?_
    rintro e w' ⟨rfl, rfl⟩
    go_wp2_with fail
    refine (l04Foot_any _ _ _ _ _ _ _).mono ?_
    rintro e w1 ⟨rfl, H1⟩
    obtain ⟨hc, hf⟩ := bcell H1
    go_wp2_with fail
    refine (l02Foot_any _ _ _ _ _).mono ?_
    rintro e w2 ⟨rfl, hb⟩
    have H2 := Bl.then H1 hb
    clear hc hf hb
    obtain ⟨hc, hf⟩ := bcell H2
    go_wp2_with (go_at_call 49; refine (l00In_any _ _ _ _).mono ?_; rintro e w' ⟨rfl, rfl⟩)
    go_ret
    exact ⟨ret_bool (by simp [lastOk, h1, h2, h3]), Bl.then (by go_grown) H2⟩)
theorem szLast_ok (s : ByteArray) (l b i h p : Int) (left : Int) (w : World) (h1 : (s.size : Int) ≤ left) (h2 : left ≤ 1048576) :
    Calls Tryd.prog 35 #[.agg #[.string s, .int .i64 l, .int .i64 b, .int .i64 i, .int .i64 h, .int .i64 p], .int .i64 left] w fun e w' => e = .returned (.int .i64 (left - s.size)) ∧ Below w.heap.size w w' := by
  go_enter Tryd.func35, Tryd.ntmps35
  go_wp2
  go_ret
  refine ⟨rfl, ?_⟩
  go_grown
theorem szLast_big (s : ByteArray) (l b i h p : Int) (left : Int) (w : World) (h1 : left < (s.size : Int)) (h2 : left ≤ 1048576) (h0 : 0 ≤ left) (hs : s.size ≤ 9223372036854775807) :
    Calls Tryd.prog 35 #[.agg #[.string s, .int .i64 l, .int .i64 b, .int .i64 i, .int .i64 h, .int .i64 p], .int .i64 left] w fun e w' => e = .returned (.int .i64 (-1)) ∧ Below w.heap.size w w' := by
  go_enter Tryd.func35, Tryd.ntmps35
  go_wp2
  go_ret
  refine ⟨rfl, ?_⟩
  go_grown
theorem eqLast_same (s : ByteArray) (l b i h p : Int) (w : World) :
    Calls Tryd.prog 48 #[.agg #[.string s, .int .i64 l, .int .i64 b, .int .i64 i, .int .i64 h, .int .i64 p], .agg #[.string s, .int .i64 l, .int .i64 b, .int .i64 i, .int .i64 h, .int .i64 p]] w fun e w' => e = .returned (.bool true) ∧ Below w.heap.size w w' := by
  go_enter Tryd.func48, Tryd.ntmps48
  go_wp2
  go_returns
  refine ⟨rfl, ?_⟩
  go_grown
theorem eqGrade_same (a b c d f : Int) (w : World) :
    Calls Tryd.prog 45 #[.agg #[.int .i64 a, .int .i64 b, .int .i64 c, .int .i64 d, .int .i64 f], .agg #[.int .i64 a, .int .i64 b, .int .i64 c, .int .i64 d, .int .i64 f]] w fun e w' => e = .returned (.bool true) ∧ Below w.heap.size w w' := by
  go_enter Tryd.func45, Tryd.ntmps45
  go_wp2
  go_returns
  refine ⟨rfl, ?_⟩
  go_grown
theorem eqFoot_same (a b c d : Int) (w : World) :
    Calls Tryd.prog 19 #[.agg #[.int .i64 a, .int .i64 b, .int .i64 c, .int .i64 d], .agg #[.int .i64 a, .int .i64 b, .int .i64 c, .int .i64 d]] w fun e w' => e = .returned (.bool true) ∧ Below w.heap.size w w' := by
  go_enter Tryd.func19, Tryd.ntmps19
  go_wp2
  go_returns
  refine ⟨rfl, ?_⟩
  go_grown
end Go.Proofs.YtijbaapecehamaaDoor
