/-
  The law FnExactValidGrade: the program's ValidGrade returns what the reference's returns; for all arguments, no condition.
-/
import Derived.Test.YtclfgkpllliacaaOpen
import Derived.Test.YtclfgkpllliacaaTo
import Derived.Test.YtclfgkpllliacaaGrade
import Derived.ProofKit
import Derived.OpenShut
import Derived.ShutString
import Derived.ChangeOld
namespace Go.Proofs.Ytclfgkpllliacaa.lawValidGrade
open Go.ChangeShapes Go.WideShapes Go.ChangeAt Go.RowKit
set_option linter.unusedVariables false

set_option maxHeartbeats 800000 in
theorem walk (a0 b0 c0 d0 e0 : Int) (w : World)  :
    Calls Try.prog 9 #[.agg #[.int .i64 a0, .int .i64 b0, .int .i64 c0, .int .i64 d0, .int .i64 e0]] w fun e w' => e = .returned (.bool true) ∧ Below w.heap.size w w' := by
  go_enter Try.func9, Try.ntmps9
  go_wp2_with fail
  refine (toGrade_any _ _ _ _ _ _).mono ?_
  rintro e w1 ⟨rfl, H1⟩
  obtain ⟨hc, hf⟩ := bcell H1
  go_wp2_with fail
  refine (sValidGrade_any _ _ _ _ _ _).mono ?_
  rintro e w2 ⟨rfl, hb⟩
  have H2 := Bl.then H1 hb
  clear hb hc hf
  obtain ⟨hc, hf⟩ := bcell H2
  go_wp2_with fail
  refine (toGrade_any _ _ _ _ _ _).mono ?_
  rintro e w3 ⟨rfl, hb⟩
  have H3 := Bl.then H2 hb
  clear hb hc hf
  obtain ⟨hc, hf⟩ := bcell H3
  go_wp2_with fail
  refine (ValidGrade_any _ _ _ _ _ _).mono ?_
  rintro e w4 ⟨rfl, hb⟩
  have H4 := Bl.then H3 hb
  clear hb hc hf
  obtain ⟨hc, hf⟩ := bcell H4
  clear hc hf
  go_wp2_with fail
  go_ret
  exact ⟨rfl, Bl.then (by go_grown) H4⟩

/-! ### The row: the argument opened, the walk, and everything read again behind it. -/
set_option maxRecDepth 100000 in
theorem lifted (os : Os) (started : os.Started) (H : Type) (enc : TypeId × Value → H) :
    ReturnsInHanded {} Try.checked os 9 .any (Rows.fnExactValidGradeSpec.pre6 enc Try.prog Try.f9 Rows.fnExactValidGradeRow.domain false) (Rows.fnExactValidGradeSpec.post enc Try.prog Try.f9 false true false false) := by
  refine returnsInHanded_of_change (C := Try.checked) own started (by kernel_rfl) Try.func9
    (ChangeSpec.witness6 (enc := enc) (C := Try.checked) false ⟨#[], #[.agg #[.int .i64 0, .int .i64 0, .int .i64 0, .int .i64 0, .int .i64 0]], []⟩ 8 (by kernel_rfl) (by kernel_rfl) (by kernel_rfl) (by kernel_rfl)) ?_
  intro W base args ds gs before hval0 hW hcnd _
  have hval : ∀ (j : Nat) t v, Try.f9.params[j]? = some t → args[j]? = some v → Value.okWide Try.prog W .any base t v := hval0
  have hW' := hW
  obtain ⟨p, q, hA0, hV, rfl, hfz, hnd⟩ := hW
  have hA : DataW.TrodAll enc Try.prog W 0 (fun _ => true) true Try.f9.params.toList args.toList ds p := hA0
  rw [Try.params9] at hA hval
  obtain ⟨v0, vs0, d0, ds0, p0, q0, hargs, rfl, rfl, h0, r0⟩ := trodAll_cons hA
  obtain ⟨rfl, rfl, rfl⟩ := trodAll_nil r0
  obtain rfl : args = #[v0] := by cases args; simp_all
  obtain ⟨rfl, rfl⟩ := trodVars_none hV
  have k0 := h0
  have lt0 : ∀ x ∈ p0, x.block < W.heap.size := by obtain ⟨m, hm⟩ := k0; exact DataW.trod_lt m _ _ _ hm
  obtain ⟨a0, b0, c0, d0, e0, rfl, -, -, -, -, -⟩ := open_Grade (hval 0 45 v0 rfl rfl) h0
  clear hA0 hval0
  refine (walk a0 b0 c0 d0 e0 W ).mono fun e W' ⟨he, bel⟩ => ?_
  subst he
  exact ⟨_, rfl, _, _, _, [], _, [], hW', trodAll_mk1 (shut_bool Try.underlying4 _), (trodAll_cons_mk (Below.trod laidOut (by kernel_rfl) (of_decide_eq_true (by kernel_rfl)) k0 bel lt0) trodAll_mk0), rfl, bel.frame _, fun h => by cases h⟩

theorem over : Rows.fnExactValidGradeRow.holds Try.pinned (OpenSpec.ofChange Rows.fnExactValidGradeSpec) :=
  OpenClaim.holds_of_wide 9 Try.f9 rfl rfl rfl rfl rfl rfl rfl ⟨rfl, rfl, rfl, rfl, rfl⟩ rfl rfl rfl rfl rfl (by kernel_rfl) Try.func9 (by kernel_rfl)
    (of_decide_eq_true (by kernel_rfl)) (by unfold Func.isWrapper; first | (rw [if_pos (by decide +kernel)]; kernel_rfl) | (rw [if_neg (by decide +kernel)]; exact ⟨rfl, rfl⟩))
    (fun os started H enc _ => lifted os started H enc)

theorem proved : Rows.FnExactValidGradeSaid := over
end Go.Proofs.Ytclfgkpllliacaa.lawValidGrade
