/-
  Scales: ValidScale of the program and of the reference; the name is any string that Go can hold.
-/
import Derived.Test.YtclfgkpllliacaaScal
import Derived.Test.YtclfgkpllliacaaName
namespace Go.Proofs.Ytclfgkpllliacaa
open Go.RowKit
set_option maxHeartbeats 400000

noncomputable def scaleOk (s : ByteArray) (b n d : Int) : Bool := nameOk s && inR b 0 100 && inR n 1 1000 && inR d 1 100
theorem ValidScale_any (s : ByteArray) (b n d : Int) (w : World) (hs : s.size ≤ maxLen) :
    Calls Try.prog 36 #[.agg #[.string s, .int .i64 b, .int .i64 n, .int .i64 d]] w fun e w' => e = .returned (.bool (scaleOk s b n d)) ∧ Below w.heap.size w w' := by
  cases h1 : nameOk s <;> cases h2 : inR b 0 100 <;> cases h3 : inR n 1 1000 <;> cases h4 : inR d 1 100 <;>
  ( go_enter Try.func36, Try.ntmps36
    go_wp2_with (first | (go_at_call 17; refine (IsName_any _ hs _).mono ?_; rintro e w' ⟨rfl, rfl⟩) | (go_at_call 40; refine (within_any _ _ _ _).mono ?_; rintro e w' ⟨rfl, rfl⟩))
    go_ret
    refine ⟨ret_bool (by simp [scaleOk, h1, h2, h3, h4]), ?_⟩
    go_grown)
theorem l03Ok_any (s : ByteArray) (b n d : Int) (w : World) (hs : s.size ≤ maxLen) :
    Calls Try.prog 55 #[.agg #[.string s, .int .i64 b, .int .i64 n, .int .i64 d]] w fun e w' => e = .returned (.bool (scaleOk s b n d)) ∧ Below w.heap.size w w' := by
  cases h1 : nameOk s <;> cases h2 : inR b 0 100 <;> cases h3 : inR n 1 1000 <;> cases h4 : inR d 1 100 <;>
  ( go_enter Try.func55, Try.ntmps55
    go_wp2_with (first | (go_at_call 16; refine (sIsName_any _ hs _).mono ?_; rintro e w' ⟨rfl, rfl⟩) | (go_at_call 47; refine (l00In_any _ _ _ _).mono ?_; rintro e w' ⟨rfl, rfl⟩))
    go_ret
    refine ⟨ret_bool (by simp [scaleOk, h1, h2, h3, h4]), ?_⟩
    go_grown)
theorem sValidScale_any (s : ByteArray) (b n d : Int) (w : World) (hs : s.size ≤ maxLen) :
    Calls Try.prog 34 #[.agg #[.string s, .int .i64 b, .int .i64 n, .int .i64 d]] w fun e w' => e = .returned (.bool (scaleOk s b n d)) ∧ Below w.heap.size w w' := by
  go_enter Try.func34, Try.ntmps34
  go_wp2_with fail
  refine (l03Ok_any _ _ _ _ _ hs).mono ?_
  rintro e w1 ⟨rfl, hb1⟩
  go_wp2_with fail
  go_ret
  exact ⟨rfl, Bl.then (by go_grown) hb1⟩
theorem szScale_ok (s : ByteArray) (b n d : Int) (left : Int) (w : World) (h1 : (s.size : Int) ≤ left) (h2 : left ≤ 1048576) :
    Calls Try.prog 33 #[.agg #[.string s, .int .i64 b, .int .i64 n, .int .i64 d], .int .i64 left] w fun e w' => e = .returned (.int .i64 (left - s.size)) ∧ Below w.heap.size w w' := by
  go_enter Try.func33, Try.ntmps33
  go_wp2
  go_ret
  refine ⟨rfl, ?_⟩
  go_grown
theorem szScale_big (s : ByteArray) (b n d : Int) (left : Int) (w : World) (h1 : left < (s.size : Int)) (h2 : left ≤ 1048576) (h0 : 0 ≤ left) (hs : s.size ≤ 9223372036854775807) :
    Calls Try.prog 33 #[.agg #[.string s, .int .i64 b, .int .i64 n, .int .i64 d], .int .i64 left] w fun e w' => e = .returned (.int .i64 (-1)) ∧ Below w.heap.size w w' := by
  go_enter Try.func33, Try.ntmps33
  go_wp2
  go_ret
  refine ⟨rfl, ?_⟩
  go_grown

/-- The library's scales, by name. -/
def scaleNamed (s : ByteArray) : (ByteArray × Int × Int × Int) × Int :=
  if s.data.toList = [112, 97, 114, 105, 115] then ((s, 0, 100, 3), 0) else if s.data.toList = [101, 110, 103, 108, 105, 115, 104] then ((s, 50, 127, 3), 0)
  else if s.data.toList = [97, 109, 101, 114, 105, 99, 97, 110] then ((s, 48, 127, 3), 0) else if s.data.toList = [109, 111, 110, 100, 111] then ((s, 0, 25, 1), 0) else ((ByteArray.empty, 0, 0, 0), 3)
end Go.Proofs.Ytclfgkpllliacaa
