/-
  GradeLast of the program and of the reference; names are any strings that Go can hold.
-/
import Derived.Test.YtebghfpkgdghcaaGrad
namespace Go.Proofs.Ytebghfpkgdghcaa
open Go.RowKit
set_option maxHeartbeats 1600000

noncomputable def gradedC (s : ByteArray) (l b i h p ga gb gc gd ge : Int) (t : Int) : Int :=
  if lastOk s l b i h p = false then 1 else if gradeOk ga gb gc gd ge = false then 1 else if inR t (-30) 30 = false then 2 else if lastOk s (grow1 l ga t) (grow1 b gb t) (grow1 i gc t) (grow1 h gd t) (grow1 p ge t) = false then 5 else 0
def gStr (c : Int) (s : ByteArray) : ByteArray := if c = 0 then s else { data := #[] }
def gNum (c x : Int) : Int := if c = 0 then x else 0
theorem retG (c k : Int) (s : ByteArray) (x1 x2 x3 x4 x5 : Int) (hc : c = k) (hk : k ≠ 0) :
    Ending.returned (.tuple #[.agg #[.string { data := #[] }, .int .i64 0, .int .i64 0, .int .i64 0, .int .i64 0, .int .i64 0], .int .i64 k]) = .returned (.tuple #[.agg #[.string (gStr c s), .int .i64 (gNum c x1), .int .i64 (gNum c x2), .int .i64 (gNum c x3), .int .i64 (gNum c x4), .int .i64 (gNum c x5)], .int .i64 c]) := by
  subst hc; simp [gStr, gNum, hk]
theorem retG0 (c : Int) (s : ByteArray) (x1 x2 x3 x4 x5 : Int) (hc : c = 0) :
    Ending.returned (.tuple #[.agg #[.string s, .int .i64 x1, .int .i64 x2, .int .i64 x3, .int .i64 x4, .int .i64 x5], .int .i64 0]) = .returned (.tuple #[.agg #[.string (gStr c s), .int .i64 (gNum c x1), .int .i64 (gNum c x2), .int .i64 (gNum c x3), .int .i64 (gNum c x4), .int .i64 (gNum c x5)], .int .i64 c]) := by
  subst hc; simp [gStr, gNum]
end Go.Proofs.Ytebghfpkgdghcaa
