/-
  The laws' own structs turned into the program's: each returns the same fields; no condition.
-/
import Derived.Test.YtpmdgbdeibeoaaaScal
namespace Go.Proofs.Ytpmdgbdeibeoaaa
open Go.RowKit
set_option maxHeartbeats 400000

theorem toScale_any (s : ByteArray) (a b c : Int) (w : World) :
    Calls Try.prog 17 #[.agg #[.string s, .int .i64 a, .int .i64 b, .int .i64 c]] w fun e w' => e = .returned (.agg #[.string s, .int .i64 a, .int .i64 b, .int .i64 c]) ∧ Below w.heap.size w w' := by
  go_enter Try.func17, Try.ntmps17
  go_wp2
  go_returns
  refine ⟨rfl, ?_⟩
  go_grown
end Go.Proofs.Ytpmdgbdeibeoaaa
