/-
  ScaleNamed of the program and of the reference, name by name; and eqScale at equal arguments; no condition but which name it is.
-/
import Derived.Test.YtclfgkpllliacaaScal
namespace Go.Proofs.Ytclfgkpllliacaa
open Go.RowKit
set_option maxHeartbeats 1000000

theorem named_0 (s : ByteArray) (w : World) (h1 : ([112, 97, 114, 105, 115] == s.toList) = true) :
    Calls Try.prog 22 #[.string s] w fun e w' => e = .returned (.tuple #[.agg #[.string { data := #[112, 97, 114, 105, 115] }, .int .i64 0, .int .i64 100, .int .i64 3], .int .i64 0]) ∧ Below w.heap.size w w' := by
  go_enter Try.func22, Try.ntmps22
  go_wp2
  go_rounds 5
  go_returns
  refine ⟨rfl, ?_⟩
  go_grown
theorem named_1 (s : ByteArray) (w : World) (h1 : ([112, 97, 114, 105, 115] == s.toList) = false) (h2 : ([101, 110, 103, 108, 105, 115, 104] == s.toList) = true) :
    Calls Try.prog 22 #[.string s] w fun e w' => e = .returned (.tuple #[.agg #[.string { data := #[101, 110, 103, 108, 105, 115, 104] }, .int .i64 50, .int .i64 127, .int .i64 3], .int .i64 0]) ∧ Below w.heap.size w w' := by
  go_enter Try.func22, Try.ntmps22
  go_wp2
  go_rounds 5
  go_returns
  refine ⟨rfl, ?_⟩
  go_grown
theorem named_2 (s : ByteArray) (w : World) (h1 : ([112, 97, 114, 105, 115] == s.toList) = false) (h2 : ([101, 110, 103, 108, 105, 115, 104] == s.toList) = false) (h3 : ([97, 109, 101, 114, 105, 99, 97, 110] == s.toList) = true) :
    Calls Try.prog 22 #[.string s] w fun e w' => e = .returned (.tuple #[.agg #[.string { data := #[97, 109, 101, 114, 105, 99, 97, 110] }, .int .i64 48, .int .i64 127, .int .i64 3], .int .i64 0]) ∧ Below w.heap.size w w' := by
  go_enter Try.func22, Try.ntmps22
  go_wp2
  go_rounds 5
  go_returns
  refine ⟨rfl, ?_⟩
  go_grown
theorem named_3 (s : ByteArray) (w : World) (h1 : ([112, 97, 114, 105, 115] == s.toList) = false) (h2 : ([101, 110, 103, 108, 105, 115, 104] == s.toList) = false) (h3 : ([97, 109, 101, 114, 105, 99, 97, 110] == s.toList) = false) (h4 : ([109, 111, 110, 100, 111] == s.toList) = true) :
    Calls Try.prog 22 #[.string s] w fun e w' => e = .returned (.tuple #[.agg #[.string { data := #[109, 111, 110, 100, 111] }, .int .i64 0, .int .i64 25, .int .i64 1], .int .i64 0]) ∧ Below w.heap.size w w' := by
  go_enter Try.func22, Try.ntmps22
  go_wp2
  go_rounds 5
  go_returns
  refine ⟨rfl, ?_⟩
  go_grown
theorem named_4 (s : ByteArray) (w : World) (h1 : ([112, 97, 114, 105, 115] == s.toList) = false) (h2 : ([101, 110, 103, 108, 105, 115, 104] == s.toList) = false) (h3 : ([97, 109, 101, 114, 105, 99, 97, 110] == s.toList) = false) (h4 : ([109, 111, 110, 100, 111] == s.toList) = false) :
    Calls Try.prog 22 #[.string s] w fun e w' => e = .returned (.tuple #[.agg #[.string { data := #[] }, .int .i64 0, .int .i64 0, .int .i64 0], .int .i64 3]) ∧ Below w.heap.size w w' := by
  go_enter Try.func22, Try.ntmps22
  go_wp2
  go_rounds 5
  go_returns
  refine ⟨rfl, ?_⟩
  go_grown
theorem snamed_0 (s : ByteArray) (w : World) (h1 : ([112, 97, 114, 105, 115] == s.toList) = true) :
    Calls Try.prog 21 #[.string s] w fun e w' => e = .returned (.tuple #[.agg #[.string { data := #[112, 97, 114, 105, 115] }, .int .i64 0, .int .i64 100, .int .i64 3], .int .i64 0]) ∧ Below w.heap.size w w' := by
  go_enter Try.func21, Try.ntmps21
  go_wp2
  go_rounds 5
  go_returns
  refine ⟨rfl, ?_⟩
  go_grown
theorem snamed_1 (s : ByteArray) (w : World) (h1 : ([112, 97, 114, 105, 115] == s.toList) = false) (h2 : ([101, 110, 103, 108, 105, 115, 104] == s.toList) = true) :
    Calls Try.prog 21 #[.string s] w fun e w' => e = .returned (.tuple #[.agg #[.string { data := #[101, 110, 103, 108, 105, 115, 104] }, .int .i64 50, .int .i64 127, .int .i64 3], .int .i64 0]) ∧ Below w.heap.size w w' := by
  go_enter Try.func21, Try.ntmps21
  go_wp2
  go_rounds 5
  go_returns
  refine ⟨rfl, ?_⟩
  go_grown
theorem snamed_2 (s : ByteArray) (w : World) (h1 : ([112, 97, 114, 105, 115] == s.toList) = false) (h2 : ([101, 110, 103, 108, 105, 115, 104] == s.toList) = false) (h3 : ([97, 109, 101, 114, 105, 99, 97, 110] == s.toList) = true) :
    Calls Try.prog 21 #[.string s] w fun e w' => e = .returned (.tuple #[.agg #[.string { data := #[97, 109, 101, 114, 105, 99, 97, 110] }, .int .i64 48, .int .i64 127, .int .i64 3], .int .i64 0]) ∧ Below w.heap.size w w' := by
  go_enter Try.func21, Try.ntmps21
  go_wp2
  go_rounds 5
  go_returns
  refine ⟨rfl, ?_⟩
  go_grown
theorem snamed_3 (s : ByteArray) (w : World) (h1 : ([112, 97, 114, 105, 115] == s.toList) = false) (h2 : ([101, 110, 103, 108, 105, 115, 104] == s.toList) = false) (h3 : ([97, 109, 101, 114, 105, 99, 97, 110] == s.toList) = false) (h4 : ([109, 111, 110, 100, 111] == s.toList) = true) :
    Calls Try.prog 21 #[.string s] w fun e w' => e = .returned (.tuple #[.agg #[.string { data := #[109, 111, 110, 100, 111] }, .int .i64 0, .int .i64 25, .int .i64 1], .int .i64 0]) ∧ Below w.heap.size w w' := by
  go_enter Try.func21, Try.ntmps21
  go_wp2
  go_rounds 5
  go_returns
  refine ⟨rfl, ?_⟩
  go_grown
theorem snamed_4 (s : ByteArray) (w : World) (h1 : ([112, 97, 114, 105, 115] == s.toList) = false) (h2 : ([101, 110, 103, 108, 105, 115, 104] == s.toList) = false) (h3 : ([97, 109, 101, 114, 105, 99, 97, 110] == s.toList) = false) (h4 : ([109, 111, 110, 100, 111] == s.toList) = false) :
    Calls Try.prog 21 #[.string s] w fun e w' => e = .returned (.tuple #[.agg #[.string { data := #[] }, .int .i64 0, .int .i64 0, .int .i64 0], .int .i64 3]) ∧ Below w.heap.size w w' := by
  go_enter Try.func21, Try.ntmps21
  go_wp2
  go_rounds 5
  go_returns
  refine ⟨rfl, ?_⟩
  go_grown
theorem eqScale_same (s : ByteArray) (a b c : Int) (w : World) :
    Calls Try.prog 23 #[.agg #[.string s, .int .i64 a, .int .i64 b, .int .i64 c], .agg #[.string s, .int .i64 a, .int .i64 b, .int .i64 c]] w fun e w' => e = .returned (.bool true) ∧ Below w.heap.size w w' := by
  go_enter Try.func23, Try.ntmps23
  go_wp2
  go_returns
  refine ⟨rfl, ?_⟩
  go_grown
end Go.Proofs.Ytclfgkpllliacaa
