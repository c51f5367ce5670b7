/-
  Contracts of small functions on numbers: each returns what it says, for all arguments, and leaves the world as it was; no condition.
-/
import Derived.Test.YtgaahmcbfognhaaProg
import Derived.Test.YtgaahmcbfognhaaBase
namespace Go.Proofs.Ytgaahmcbfognhaa
open Go.RowKit
set_option maxHeartbeats 400000

theorem within_any (n a b : Int) (w : World) :
    Calls Try.prog 33 #[.int .i64 n, .int .i64 a, .int .i64 b] w fun e w' => e = .returned (.bool (inR n a b)) ∧ w = w' := by
  by_cases h1 : a ≤ n
  · by_cases h2 : n ≤ b
    · go_enter Try.func33, Try.ntmps33
      go_wp2
      go_ret
      exact ⟨ret_bool (inR_yes ⟨h1, h2⟩).symm, rfl⟩
    · go_enter Try.func33, Try.ntmps33
      go_wp2
      go_ret
      exact ⟨ret_bool (inR_no (by omega)).symm, rfl⟩
  · go_enter Try.func33, Try.ntmps33
    go_wp2
    go_ret
    exact ⟨ret_bool (inR_no (by omega)).symm, rfl⟩
theorem l00In_any (n a b : Int) (w : World) :
    Calls Try.prog 24 #[.int .i64 n, .int .i64 a, .int .i64 b] w fun e w' => e = .returned (.bool (inR n a b)) ∧ w = w' := by
  by_cases h1 : a ≤ n
  · by_cases h2 : n ≤ b
    · go_enter Try.func24, Try.ntmps24
      go_wp2
      go_ret
      exact ⟨ret_bool (inR_yes ⟨h1, h2⟩).symm, rfl⟩
    · go_enter Try.func24, Try.ntmps24
      go_wp2
      go_ret
      exact ⟨ret_bool (inR_no (by omega)).symm, rfl⟩
  · go_enter Try.func24, Try.ntmps24
    go_wp2
    go_ret
    exact ⟨ret_bool (inR_no (by omega)).symm, rfl⟩

end Go.Proofs.Ytgaahmcbfognhaa
