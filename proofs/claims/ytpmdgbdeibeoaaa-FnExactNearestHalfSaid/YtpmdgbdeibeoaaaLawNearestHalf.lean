/-
  The law FnExactNearestHalf: the program's NearestHalf returns what the reference's returns; for all arguments, no condition.
-/
import Derived.Test.YtpmdgbdeibeoaaaOpen
import Derived.Test.YtpmdgbdeibeoaaaTo
import Derived.Test.YtpmdgbdeibeoaaaHalf
import Derived.ProofKit
import Derived.OpenShut
import Derived.ShutString
import Derived.ChangeOld
namespace Go.Proofs.Ytpmdgbdeibeoaaa.lawNearestHalf
open Go.ChangeShapes Go.WideShapes Go.ChangeAt Go.RowKit
set_option linter.unusedVariables false

set_option maxHeartbeats 800000 in
theorem walk (s0 : ByteArray) (a0 b0 c0 : Int) (x1 : Int) (w : World) (hs0 : s0.size ≤ maxLen) :
    Calls Try.prog 5 #[.agg #[.string s0, .int .i64 a0, .int .i64 b0, .int .i64 c0], .int .i64 x1] w fun e w' => e = .returned (.bool true) ∧ Below w.heap.size w w' := by
  have hs9 := size_maxLen hs0
  by_cases hbig : 1048576 < s0.size
  · go_enter Try.func5, Try.ntmps5
    go_wp2_with fail
    refine (szScale_big _ _ _ _ _ _ (by omega) (by omega) (by omega) hs9).mono ?_
    rintro e w1 ⟨rfl, H1⟩
    obtain ⟨hc, hf⟩ := bcell H1
    clear hc hf
    go_wp2_with fail
    go_ret
    exact ⟨rfl, Bl.then (by go_grown) H1⟩
  go_enter Try.func5, Try.ntmps5
  go_wp2_with fail
  refine (szScale_ok _ _ _ _ _ _ (by omega) (by omega)).mono ?_
  rintro e w1 ⟨rfl, H1⟩
  obtain ⟨hc, hf⟩ := bcell H1
  go_wp2_with fail
  refine (toScale_any _ _ _ _ _).mono ?_
  rintro e w2 ⟨rfl, hb2⟩
  have H2 := Bl.then H1 hb2
  clear hc hf
  obtain ⟨hc, hf⟩ := bcell H2
  go_wp2_with fail
  refine (sNearestHalf_any _ _ _ _ _ _ hs0).mono ?_
  rintro e w3 ⟨rfl, hb3⟩
  have H3 := Bl.then H2 hb3
  clear hc hf
  obtain ⟨hc, hf⟩ := bcell H3
  go_wp2_with fail
  refine (toScale_any _ _ _ _ _).mono ?_
  rintro e w4 ⟨rfl, hb4⟩
  have H4 := Bl.then H3 hb4
  clear hc hf
  obtain ⟨hc, hf⟩ := bcell H4
  go_wp2_with fail
  refine (NearestHalf_any _ _ _ _ _ _ hs0).mono ?_
  rintro e w5 ⟨rfl, hb5⟩
  have H5 := Bl.then H4 hb5
  clear hc hf
  obtain ⟨hc, hf⟩ := bcell H5
  clear hc hf
  go_wp2_with fail
  go_ret
  exact ⟨rfl, Bl.then (by go_grown) H5⟩

/-! ### The row: the argument opened, the walk, and everything read again behind it. -/
set_option maxRecDepth 100000 in
theorem lifted (os : Os) (started : os.Started) (H : Type) (enc : TypeId × Value → H) :
    ReturnsInHanded {} Try.checked os 5 .any (Rows.fnExactNearestHalfSpec.pre6 enc Try.prog Try.f5 Rows.fnExactNearestHalfRow.domain false) (Rows.fnExactNearestHalfSpec.post enc Try.prog Try.f5 false true false false) := by
  refine returnsInHanded_of_change (C := Try.checked) own started (by kernel_rfl) Try.func5
    (ChangeSpec.witness6 (enc := enc) (C := Try.checked) false ⟨#[], #[.agg #[.string ByteArray.empty, .int .i64 0, .int .i64 0, .int .i64 0], .int .i64 0], []⟩ 8 (by kernel_rfl) (by kernel_rfl) (by kernel_rfl) (by kernel_rfl)) ?_
  intro W base args ds gs before hval0 hW hcnd _
  have hval : ∀ (j : Nat) t v, Try.f5.params[j]? = some t → args[j]? = some v → Value.okWide Try.prog W .any base t v := hval0
  have hW' := hW
  obtain ⟨p, q, hA0, hV, rfl, hfz, hnd⟩ := hW
  have hA : DataW.TrodAll enc Try.prog W 0 (fun _ => true) true Try.f5.params.toList args.toList ds p := hA0
  rw [Try.params5] at hA hval
  obtain ⟨v0, vs0, d0, ds0, p0, q0, hargs, rfl, rfl, h0, r0⟩ := trodAll_cons hA
  obtain ⟨v1, vs1, d1, ds1, p1, q1, rfl, rfl, rfl, h1, r1⟩ := trodAll_cons r0
  obtain ⟨rfl, rfl, rfl⟩ := trodAll_nil r1
  obtain rfl : args = #[v0, v1] := by cases args; simp_all
  obtain ⟨rfl, rfl⟩ := trodVars_none hV
  have k0 := h0
  have lt0 : ∀ x ∈ p0, x.block < W.heap.size := by obtain ⟨m, hm⟩ := k0; exact DataW.trod_lt m _ _ _ hm
  have k1 := h1
  have lt1 : ∀ x ∈ p1, x.block < W.heap.size := by obtain ⟨m, hm⟩ := k1; exact DataW.trod_lt m _ _ _ hm
  obtain ⟨s0, a0, b0, c0, rfl, hs0, -, -, -⟩ := open_Scale (hval 0 23 v0 rfl rfl) h0
  obtain ⟨x1, rfl, rfl, rfl, wf1⟩ := open_int Try.underlying2 (hval 1 2 v1 rfl rfl) h1
  clear hA0 hval0
  refine (walk s0 a0 b0 c0 x1 W hs0).mono fun e W' ⟨he, bel⟩ => ?_
  subst he
  exact ⟨_, rfl, _, _, _, [], _, [], hW', trodAll_mk1 (shut_bool Try.underlying4 _), (trodAll_cons_mk (Below.trod laidOut (by kernel_rfl) (of_decide_eq_true (by kernel_rfl)) k0 bel lt0) (trodAll_cons_mk (Below.trod laidOut (by kernel_rfl) (of_decide_eq_true (by kernel_rfl)) k1 bel lt1) trodAll_mk0)), rfl, bel.frame _, fun h => by cases h⟩

theorem over : Rows.fnExactNearestHalfRow.holds Try.pinned (OpenSpec.ofChange Rows.fnExactNearestHalfSpec) :=
  OpenClaim.holds_of_wide 5 Try.f5 rfl rfl rfl rfl rfl rfl rfl ⟨rfl, rfl, rfl, rfl, rfl⟩ rfl rfl rfl rfl rfl (by kernel_rfl) Try.func5 (by kernel_rfl)
    (of_decide_eq_true (by kernel_rfl)) (by unfold Func.isWrapper; first | (rw [if_pos (by decide +kernel)]; kernel_rfl) | (rw [if_neg (by decide +kernel)]; exact ⟨rfl, rfl⟩))
    (fun os started H enc _ => lifted os started H enc)

theorem proved : Rows.FnExactNearestHalfSaid := over
end Go.Proofs.Ytpmdgbdeibeoaaa.lawNearestHalf
