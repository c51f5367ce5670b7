/-
  The laws' own structs turned into the program's: each returns the same fields; no condition.
-/
import Derived.Test.YtijbaapecehamaaDoorScal
namespace Go.Proofs.YtijbaapecehamaaDoor
open Go.RowKit
set_option maxHeartbeats 400000

theorem toFoot_any (a b c d : Int) (w : World) :
    Calls Tryd.prog 30 #[.agg #[.int .i64 a, .int .i64 b, .int .i64 c, .int .i64 d]] w fun e w' => e = .returned (.agg #[.int .i64 a, .int .i64 b, .int .i64 c, .int .i64 d]) ∧ Below w.heap.size w w' := by
  go_enter Tryd.func30, Tryd.ntmps30
  go_wp2
  go_returns
  refine ⟨rfl, ?_⟩
  go_grown
theorem toGrade_any (a b c d f : Int) (w : World) :
    Calls Tryd.prog 33 #[.agg #[.int .i64 a, .int .i64 b, .int .i64 c, .int .i64 d, .int .i64 f]] w fun e w' => e = .returned (.agg #[.int .i64 a, .int .i64 b, .int .i64 c, .int .i64 d, .int .i64 f]) ∧ Below w.heap.size w w' := by
  go_enter Tryd.func33, Tryd.ntmps33
  go_wp2
  go_returns
  refine ⟨rfl, ?_⟩
  go_grown
theorem toLast_any (s : ByteArray) (a b c d f : Int) (w : World) :
    Calls Tryd.prog 37 #[.agg #[.string s, .int .i64 a, .int .i64 b, .int .i64 c, .int .i64 d, .int .i64 f]] w fun e w' => e = .returned (.agg #[.string s, .int .i64 a, .int .i64 b, .int .i64 c, .int .i64 d, .int .i64 f]) ∧ Below w.heap.size w w' := by
  go_enter Tryd.func37, Tryd.ntmps37
  go_wp2
  go_returns
  refine ⟨rfl, ?_⟩
  go_grown
end Go.Proofs.YtijbaapecehamaaDoor
