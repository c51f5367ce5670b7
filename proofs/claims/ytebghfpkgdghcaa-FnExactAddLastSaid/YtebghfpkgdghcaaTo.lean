/-
  The laws' own structs turned into the program's: each returns the same fields; no condition.
-/
import Derived.Test.YtebghfpkgdghcaaScal
namespace Go.Proofs.Ytebghfpkgdghcaa
open Go.RowKit
set_option maxHeartbeats 400000

theorem toLast_any (s : ByteArray) (a b c d f : Int) (w : World) :
    Calls Try.prog 8 #[.agg #[.string s, .int .i64 a, .int .i64 b, .int .i64 c, .int .i64 d, .int .i64 f]] w fun e w' => e = .returned (.agg #[.string s, .int .i64 a, .int .i64 b, .int .i64 c, .int .i64 d, .int .i64 f]) ∧ Below w.heap.size w w' := by
  go_enter Try.func8, Try.ntmps8
  go_wp2
  go_returns
  refine ⟨rfl, ?_⟩
  go_grown
end Go.Proofs.Ytebghfpkgdghcaa
