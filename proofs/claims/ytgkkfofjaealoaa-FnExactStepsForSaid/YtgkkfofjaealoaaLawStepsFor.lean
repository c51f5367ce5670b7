/-
  The law FnExactStepsFor: the program's StepsFor returns what the reference's returns; for all arguments, no condition.
-/
import Derived.Test.YtgkkfofjaealoaaOpen
import Derived.Test.YtgkkfofjaealoaaTo
import Derived.Test.YtgkkfofjaealoaaSteps
import Derived.ProofKit
import Derived.OpenShut
import Derived.ShutString
import Derived.ChangeOld
import Derived.Deep.RegionHeld3
namespace Go.Proofs.Ytgkkfofjaealoaa.lawStepsFor
open Go.ChangeShapes Go.WideShapes Go.ChangeAt Go.RowKit
set_option linter.unusedVariables false

set_option maxHeartbeats 800000 in
theorem walk (s0 : ByteArray) (a0 b0 c0 d0 e0 : Int) (a1 b1 c1 d1 e1 : Int) (x2 : Int) (w : World) (hs0 : s0.size ≤ maxLen) :
    Calls Try.prog 8 #[.agg #[.string s0, .int .i64 a0, .int .i64 b0, .int .i64 c0, .int .i64 d0, .int .i64 e0], .agg #[.int .i64 a1, .int .i64 b1, .int .i64 c1, .int .i64 d1, .int .i64 e1], .int .i64 x2] w fun e w' => e = .returned (.bool true) ∧ Below w.heap.size w w' := by
  have hs9 := size_maxLen hs0
  by_cases hbig : 1048576 < s0.size
  · go_enter Try.func8, Try.ntmps8
    go_wp2_with fail
    refine (szLast_big _ _ _ _ _ _ _ _ (by omega) (by omega) (by omega) hs9).mono ?_
    rintro e w1 ⟨rfl, H1⟩
    obtain ⟨hc, hf⟩ := bcell H1
    clear hc hf
    go_wp2_with fail
    go_ret
    exact ⟨rfl, Bl.then (by go_grown) H1⟩
  go_enter Try.func8, Try.ntmps8
  go_wp2_with fail
  refine (szLast_ok _ _ _ _ _ _ _ _ (by omega) (by omega)).mono ?_
  rintro e w1 ⟨rfl, H1⟩
  obtain ⟨hc, hf⟩ := bcell H1
  go_wp2_with fail
  go_region_held3 (fun wz => Below ((w.alloc (.cells #[.string s0, .int .i64 a0, .int .i64 b0, .int .i64 c0, .int .i64 d0, .int .i64 e0] 31)).alloc (.cells #[.int .i64 a1, .int .i64 b1, .int .i64 c1, .int .i64 d1, .int .i64 e1] 51)).heap.size ((w.alloc (.cells #[.string s0, .int .i64 a0, .int .i64 b0, .int .i64 c0, .int .i64 d0, .int .i64 e0] 31)).alloc (.cells #[.int .i64 a1, .int .i64 b1, .int .i64 c1, .int .i64 d1, .int .i64 e1] 51)) wz ∧ wz.cell? ⟨w.heap.size, 0, none⟩ = some (.string s0) ∧ wz.cell? ⟨w.heap.size, 1, none⟩ = some (.int .i64 a0) ∧ wz.cell? ⟨w.heap.size, 2, none⟩ = some (.int .i64 b0) ∧ wz.cell? ⟨w.heap.size, 3, none⟩ = some (.int .i64 c0) ∧ wz.cell? ⟨w.heap.size, 4, none⟩ = some (.int .i64 d0) ∧ wz.cell? ⟨w.heap.size, 5, none⟩ = some (.int .i64 e0) ∧ wz.cell? ⟨w.heap.size + 1, 0, none⟩ = some (.int .i64 a1) ∧ wz.cell? ⟨w.heap.size + 1, 1, none⟩ = some (.int .i64 b1) ∧ wz.cell? ⟨w.heap.size + 1, 2, none⟩ = some (.int .i64 c1) ∧ wz.cell? ⟨w.heap.size + 1, 3, none⟩ = some (.int .i64 d1) ∧ wz.cell? ⟨w.heap.size + 1, 4, none⟩ = some (.int .i64 e1)) ((repeat' apply And.intro) <;> first | assumption | exact Below.drew (by assumption) | (simp [*, go_sem]; done)) (first | (go_at_call 24; refine (toLast_any _ _ _ _ _ _ _).mono ?_; rintro e w2 ⟨rfl, hb2⟩; have HZ := Bl.then (w := ((w.alloc (.cells #[.string s0, .int .i64 a0, .int .i64 b0, .int .i64 c0, .int .i64 d0, .int .i64 e0] 31)).alloc (.cells #[.int .i64 a1, .int .i64 b1, .int .i64 c1, .int .i64 d1, .int .i64 e1] 51))) (And.left (by assumption)) hb2; obtain ⟨hc, hf⟩ := bcell HZ) | (go_at_call 34; refine (toGrade_any _ _ _ _ _ _).mono ?_; rintro e w2 ⟨rfl, hb2⟩; have HZ := Bl.then (w := ((w.alloc (.cells #[.string s0, .int .i64 a0, .int .i64 b0, .int .i64 c0, .int .i64 d0, .int .i64 e0] 31)).alloc (.cells #[.int .i64 a1, .int .i64 b1, .int .i64 c1, .int .i64 d1, .int .i64 e1] 51))) (And.left (by assumption)) hb2; obtain ⟨hc, hf⟩ := bcell HZ) | (go_at_call 37; refine (sStepsFor_any _ _ _ _ _ _ _ _ _ _ _ _ _ hs0).mono ?_; rintro e w2 ⟨rfl, hb2⟩; have HZ := Bl.then (w := ((w.alloc (.cells #[.string s0, .int .i64 a0, .int .i64 b0, .int .i64 c0, .int .i64 d0, .int .i64 e0] 31)).alloc (.cells #[.int .i64 a1, .int .i64 b1, .int .i64 c1, .int .i64 d1, .int .i64 e1] 51))) (And.left (by assumption)) hb2; obtain ⟨hc, hf⟩ := bcell HZ))
  have H2 := HZ
  clear HZ
  go_wp2_with fail
  go_region_held3 (fun wz => Below ((w.alloc (.cells #[.string s0, .int .i64 a0, .int .i64 b0, .int .i64 c0, .int .i64 d0, .int .i64 e0] 31)).alloc (.cells #[.int .i64 a1, .int .i64 b1, .int .i64 c1, .int .i64 d1, .int .i64 e1] 51)).heap.size ((w.alloc (.cells #[.string s0, .int .i64 a0, .int .i64 b0, .int .i64 c0, .int .i64 d0, .int .i64 e0] 31)).alloc (.cells #[.int .i64 a1, .int .i64 b1, .int .i64 c1, .int .i64 d1, .int .i64 e1] 51)) wz ∧ wz.cell? ⟨w.heap.size, 0, none⟩ = some (.string s0) ∧ wz.cell? ⟨w.heap.size, 1, none⟩ = some (.int .i64 a0) ∧ wz.cell? ⟨w.heap.size, 2, none⟩ = some (.int .i64 b0) ∧ wz.cell? ⟨w.heap.size, 3, none⟩ = some (.int .i64 c0) ∧ wz.cell? ⟨w.heap.size, 4, none⟩ = some (.int .i64 d0) ∧ wz.cell? ⟨w.heap.size, 5, none⟩ = some (.int .i64 e0) ∧ wz.cell? ⟨w.heap.size + 1, 0, none⟩ = some (.int .i64 a1) ∧ wz.cell? ⟨w.heap.size + 1, 1, none⟩ = some (.int .i64 b1) ∧ wz.cell? ⟨w.heap.size + 1, 2, none⟩ = some (.int .i64 c1) ∧ wz.cell? ⟨w.heap.size + 1, 3, none⟩ = some (.int .i64 d1) ∧ wz.cell? ⟨w.heap.size + 1, 4, none⟩ = some (.int .i64 e1)) ((repeat' apply And.intro) <;> first | assumption | exact Below.drew (by assumption) | (simp [*, go_sem]; done)) (first | (go_at_call 24; refine (toLast_any _ _ _ _ _ _ _).mono ?_; rintro e w3 ⟨rfl, hb3⟩; have HZ := Bl.then (w := ((w.alloc (.cells #[.string s0, .int .i64 a0, .int .i64 b0, .int .i64 c0, .int .i64 d0, .int .i64 e0] 31)).alloc (.cells #[.int .i64 a1, .int .i64 b1, .int .i64 c1, .int .i64 d1, .int .i64 e1] 51))) (And.left (by assumption)) hb3; obtain ⟨hc, hf⟩ := bcell HZ) | (go_at_call 34; refine (toGrade_any _ _ _ _ _ _).mono ?_; rintro e w3 ⟨rfl, hb3⟩; have HZ := Bl.then (w := ((w.alloc (.cells #[.string s0, .int .i64 a0, .int .i64 b0, .int .i64 c0, .int .i64 d0, .int .i64 e0] 31)).alloc (.cells #[.int .i64 a1, .int .i64 b1, .int .i64 c1, .int .i64 d1, .int .i64 e1] 51))) (And.left (by assumption)) hb3; obtain ⟨hc, hf⟩ := bcell HZ) | (go_at_call 38; refine (StepsFor_any _ _ _ _ _ _ _ _ _ _ _ _ _ hs0).mono ?_; rintro e w3 ⟨rfl, hb3⟩; have HZ := Bl.then (w := ((w.alloc (.cells #[.string s0, .int .i64 a0, .int .i64 b0, .int .i64 c0, .int .i64 d0, .int .i64 e0] 31)).alloc (.cells #[.int .i64 a1, .int .i64 b1, .int .i64 c1, .int .i64 d1, .int .i64 e1] 51))) (And.left (by assumption)) hb3; obtain ⟨hc, hf⟩ := bcell HZ))
  have H3 := HZ
  clear HZ
  clear hc hf
  go_wp2_with fail
  go_ret
  exact ⟨rfl, Bl.then (by go_grown) H3⟩

/-! ### The row: the argument opened, the walk, and everything read again behind it. -/
set_option maxRecDepth 100000 in
theorem lifted (os : Os) (started : os.Started) (H : Type) (enc : TypeId × Value → H) :
    ReturnsInHanded {} Try.checked os 8 .any (Rows.fnExactStepsForSpec.pre6 enc Try.prog Try.f8 Rows.fnExactStepsForRow.domain false) (Rows.fnExactStepsForSpec.post enc Try.prog Try.f8 false true false false) := by
  refine returnsInHanded_of_change (C := Try.checked) own started (by kernel_rfl) Try.func8
    (ChangeSpec.witness6 (enc := enc) (C := Try.checked) false ⟨#[], #[.agg #[.string ByteArray.empty, .int .i64 0, .int .i64 0, .int .i64 0, .int .i64 0, .int .i64 0], .agg #[.int .i64 0, .int .i64 0, .int .i64 0, .int .i64 0, .int .i64 0], .int .i64 0], []⟩ 8 (by kernel_rfl) (by kernel_rfl) (by kernel_rfl) (by kernel_rfl)) ?_
  intro W base args ds gs before hval0 hW hcnd _
  have hval : ∀ (j : Nat) t v, Try.f8.params[j]? = some t → args[j]? = some v → Value.okWide Try.prog W .any base t v := hval0
  have hW' := hW
  obtain ⟨p, q, hA0, hV, rfl, hfz, hnd⟩ := hW
  have hA : DataW.TrodAll enc Try.prog W 0 (fun _ => true) true Try.f8.params.toList args.toList ds p := hA0
  rw [Try.params8] at hA hval
  obtain ⟨v0, vs0, d0, ds0, p0, q0, hargs, rfl, rfl, h0, r0⟩ := trodAll_cons hA
  obtain ⟨v1, vs1, d1, ds1, p1, q1, rfl, rfl, rfl, h1, r1⟩ := trodAll_cons r0
  obtain ⟨v2, vs2, d2, ds2, p2, q2, rfl, rfl, rfl, h2, r2⟩ := trodAll_cons r1
  obtain ⟨rfl, rfl, rfl⟩ := trodAll_nil r2
  obtain rfl : args = #[v0, v1, v2] := by cases args; simp_all
  obtain ⟨rfl, rfl⟩ := trodVars_none hV
  have k0 := h0
  have lt0 : ∀ x ∈ p0, x.block < W.heap.size := by obtain ⟨m, hm⟩ := k0; exact DataW.trod_lt m _ _ _ hm
  have k1 := h1
  have lt1 : ∀ x ∈ p1, x.block < W.heap.size := by obtain ⟨m, hm⟩ := k1; exact DataW.trod_lt m _ _ _ hm
  have k2 := h2
  have lt2 : ∀ x ∈ p2, x.block < W.heap.size := by obtain ⟨m, hm⟩ := k2; exact DataW.trod_lt m _ _ _ hm
  obtain ⟨s0, a0, b0, c0, d0, e0, rfl, hs0, -, -, -, -, -⟩ := open_Last (hval 0 31 v0 rfl rfl) h0
  obtain ⟨a1, b1, c1, d1, e1, rfl, -, -, -, -, -⟩ := open_Grade (hval 1 51 v1 rfl rfl) h1
  obtain ⟨x2, rfl, rfl, rfl, wf2⟩ := open_int Try.underlying2 (hval 2 2 v2 rfl rfl) h2
  clear hA0 hval0
  refine (walk s0 a0 b0 c0 d0 e0 a1 b1 c1 d1 e1 x2 W hs0).mono fun e W' ⟨he, bel⟩ => ?_
  subst he
  exact ⟨_, rfl, _, _, _, [], _, [], hW', trodAll_mk1 (shut_bool Try.underlying4 _), (trodAll_cons_mk (Below.trod laidOut (by kernel_rfl) (of_decide_eq_true (by kernel_rfl)) k0 bel lt0) (trodAll_cons_mk (Below.trod laidOut (by kernel_rfl) (of_decide_eq_true (by kernel_rfl)) k1 bel lt1) (trodAll_cons_mk (Below.trod laidOut (by kernel_rfl) (of_decide_eq_true (by kernel_rfl)) k2 bel lt2) trodAll_mk0))), rfl, bel.frame _, fun h => by cases h⟩

theorem over : Rows.fnExactStepsForRow.holds Try.pinned (OpenSpec.ofChange Rows.fnExactStepsForSpec) :=
  OpenClaim.holds_of_wide 8 Try.f8 rfl rfl rfl rfl rfl rfl rfl ⟨rfl, rfl, rfl, rfl, rfl⟩ rfl rfl rfl rfl rfl (by kernel_rfl) Try.func8 (by kernel_rfl)
    (of_decide_eq_true (by kernel_rfl)) (by unfold Func.isWrapper; first | (rw [if_pos (by decide +kernel)]; kernel_rfl) | (rw [if_neg (by decide +kernel)]; exact ⟨rfl, rfl⟩))
    (fun os started H enc _ => lifted os started H enc)

theorem proved : Rows.FnExactStepsForSaid := over
end Go.Proofs.Ytgkkfofjaealoaa.lawStepsFor
