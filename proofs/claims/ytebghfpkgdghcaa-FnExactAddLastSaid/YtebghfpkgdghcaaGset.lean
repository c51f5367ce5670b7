/-
  GradeSet of the program and of the reference; names are any strings that Go can hold.
-/
import Derived.Test.YtebghfpkgdghcaaGrad2
import Derived.Test.YtebghfpkgdghcaaLastsOk
import Derived.Test.YtebghfpkgdghcaaLastW
namespace Go.Proofs.Ytebghfpkgdghcaa
open Go.RowKit
set_option maxHeartbeats 3200000
set_option linter.unusedVariables false

def gsL (x : LastD) (ga gb gc gd ge t : Int) : LastD := ⟨x.s, grow1 x.l ga t, grow1 x.b gb t, grow1 x.i gc t, grow1 x.h gd t, grow1 x.p ge t⟩
def gsRow (x : LastD) (ga gb gc gd ge z : Int) : Nat → List LastD
  | 0 => []
  | k + 1 => gsRow x ga gb gc gd ge z k ++ [gsL x ga gb gc gd ge (z + (k : Int))]
noncomputable def gsAll (x : LastD) (ga gb gc gd ge z : Int) : Nat → Bool
  | 0 => true
  | k + 1 => gsAll x ga gb gc gd ge z k && lOk (gsL x ga gb gc gd ge (z + (k : Int)))
theorem gsRow_len (x : LastD) (ga gb gc gd ge z : Int) : ∀ k, (gsRow x ga gb gc gd ge z k).length = k
  | 0 => rfl
  | k + 1 => by simp [gsRow, gsRow_len x ga gb gc gd ge z k]
theorem gsAll_no {x : LastD} {ga gb gc gd ge z : Int} {m : Nat} : ∀ {K : Nat}, m < K → lOk (gsL x ga gb gc gd ge (z + (m : Int))) = false → gsAll x ga gb gc gd ge z K = false
  | 0, hm, _ => by omega
  | K + 1, hm, h => by
    by_cases e : m = K
    · subst e; simp [gsAll, h]
    · simp [gsAll, gsAll_no (K := K) (by omega) h]
noncomputable def gsR (x : LastD) (ga gb gc gd ge z2 z3 : Int) : List LastD × Int :=
  if lOk x = false then ([], 1) else if gradeOk ga gb gc gd ge = false then ([], 1) else if inR z2 (-30) 30 = false then ([], 2) else if inR z3 z2 30 = false then ([], 2) else if gsAll x ga gb gc gd ge z2 (z3 - z2 + 1).toNat = true then (gsRow x ga gb gc gd ge z2 (z3 - z2 + 1).toNat, 0) else ([], 5)
theorem gsR_len (x : LastD) (ga gb gc gd ge z2 z3 : Int) : (gsR x ga gb gc gd ge z2 z3).1.length ≤ 1048576 := by
  unfold gsR
  cases lOk x
  · simp
  cases gradeOk ga gb gc gd ge
  · simp
  cases h3 : inR z2 (-30) 30
  · simp
  cases h4 : inR z3 z2 30
  · simp
  have e3 := inR_true.1 h3
  have e4 := inR_true.1 h4
  cases gsAll x ga gb gc gd ge z2 (z3 - z2 + 1).toNat
  · simp
  · simp only [Bool.true_eq_false, if_false, if_true, gsRow_len]; omega
/-- What GradeSet hands back: a row of its own, a code. -/
def RetLs (r : List LastD × Int) (w : World) (e : Ending) (w' : World) : Prop :=
  ∃ A c, e = .returned (.tuple #[.slice A r.1.length c, .int .i64 r.2]) ∧ w'.ownsRow w.heap.size 31 6 (.slice A r.1.length c) r.1.length (lasts r.1) ∧ Below w.heap.size w w'
theorem RetLs.mk {r : List LastD × Int} {w w' : World} {A : Option Addr} {n c : Nat} {zs : List LastD} {code : Int} (h : r = (zs, code)) (hl : zs.length = n) (ho : w'.ownsRow w.heap.size 31 6 (.slice A n c) n (lasts zs)) (hb : Below w.heap.size w w') :
    RetLs r w (.returned (.tuple #[.slice A n c, .int .i64 code])) w' := by
  subst h; subst hl
  exact ⟨A, c, rfl, ho, hb⟩
theorem RetLs.nil {r : List LastD × Int} {w w' : World} {code : Int} (h : r = ([], code)) (hb : Below w.heap.size w w') : RetLs r w (.returned (.tuple #[.slice none 0 0, .int .i64 code])) w' :=
  RetLs.mk h rfl ⟨rfl, .inl ⟨rfl, rfl⟩⟩ hb
end Go.Proofs.Ytebghfpkgdghcaa
