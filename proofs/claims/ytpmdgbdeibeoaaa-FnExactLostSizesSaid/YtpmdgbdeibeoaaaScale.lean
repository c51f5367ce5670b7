/-
  Scales: ValidScale of the program and of the reference; the name is any string that Go can hold.
-/
import Derived.Test.YtpmdgbdeibeoaaaScal
import Derived.Test.YtpmdgbdeibeoaaaName
namespace Go.Proofs.Ytpmdgbdeibeoaaa
open Go.RowKit
set_option maxHeartbeats 400000

noncomputable def scaleOk (s : ByteArray) (b n d : Int) : Bool := nameOk s && inR b 0 100 && inR n 1 1000 && inR d 1 100
theorem ValidScale_any (s : ByteArray) (b n d : Int) (w : World) (hs : s.size ≤ maxLen) :
    Calls Try.prog 54 #[.agg #[.string s, .int .i64 b, .int .i64 n, .int .i64 d]] w fun e w' => e = .returned (.bool (scaleOk s b n d)) ∧ Below w.heap.size w w' := by
  cases h1 : nameOk s <;> cases h2 : inR b 0 100 <;> cases h3 : inR n 1 1000 <;> cases h4 : inR d 1 100 <;>
  ( go_enter Try.func54, Try.ntmps54
    go_wp2_with (first | (go_at_call 84; refine (IsName_any _ hs _).mono ?_; rintro e w' ⟨rfl, rfl⟩) | (go_at_call 69; refine (within_any _ _ _ _).mono ?_; rintro e w' ⟨rfl, rfl⟩))
    go_ret
    refine ⟨ret_bool (by simp [scaleOk, h1, h2, h3, h4]), ?_⟩
    go_grown)
theorem l03Ok_any (s : ByteArray) (b n d : Int) (w : World) (hs : s.size ≤ maxLen) :
    Calls Try.prog 51 #[.agg #[.string s, .int .i64 b, .int .i64 n, .int .i64 d]] w fun e w' => e = .returned (.bool (scaleOk s b n d)) ∧ Below w.heap.size w w' := by
  cases h1 : nameOk s <;> cases h2 : inR b 0 100 <;> cases h3 : inR n 1 1000 <;> cases h4 : inR d 1 100 <;>
  ( go_enter Try.func51, Try.ntmps51
    go_wp2_with (first | (go_at_call 82; refine (sIsName_any _ hs _).mono ?_; rintro e w' ⟨rfl, rfl⟩) | (go_at_call 61; refine (l00In_any _ _ _ _).mono ?_; rintro e w' ⟨rfl, rfl⟩))
    go_ret
    refine ⟨ret_bool (by simp [scaleOk, h1, h2, h3, h4]), ?_⟩
    go_grown)
theorem szScale_ok (s : ByteArray) (b n d : Int) (left : Int) (w : World) (h1 : (s.size : Int) ≤ left) (h2 : left ≤ 1048576) :
    Calls Try.prog 15 #[.agg #[.string s, .int .i64 b, .int .i64 n, .int .i64 d], .int .i64 left] w fun e w' => e = .returned (.int .i64 (left - s.size)) ∧ Below w.heap.size w w' := by
  go_enter Try.func15, Try.ntmps15
  go_wp2
  go_ret
  refine ⟨rfl, ?_⟩
  go_grown
theorem szScale_big (s : ByteArray) (b n d : Int) (left : Int) (w : World) (h1 : left < (s.size : Int)) (h2 : left ≤ 1048576) (h0 : 0 ≤ left) (hs : s.size ≤ 9223372036854775807) :
    Calls Try.prog 15 #[.agg #[.string s, .int .i64 b, .int .i64 n, .int .i64 d], .int .i64 left] w fun e w' => e = .returned (.int .i64 (-1)) ∧ Below w.heap.size w w' := by
  go_enter Try.func15, Try.ntmps15
  go_wp2
  go_ret
  refine ⟨rfl, ?_⟩
  go_grown

end Go.Proofs.Ytpmdgbdeibeoaaa
