/-
  Grades: numbers, ValidGrade of the program and of the reference; no condition.
-/
import Derived.Test.YtebghfpkgdghcaaFeet
namespace Go.Proofs.Ytebghfpkgdghcaa
open Go.RowKit
set_option maxHeartbeats 400000

def gradeOk (a b c d f : Int) : Bool := !outB [a, b, c, d, f] 0 20000
end Go.Proofs.Ytebghfpkgdghcaa
