/-
  The law FnExactValidLayers: the program's ValidLayers returns what the reference's returns; for all arguments, no condition.
-/
import Derived.Test.YtclfgkpllliacaaOpen
import Derived.Test.YtclfgkpllliacaaInts
import Derived.Test.YtclfgkpllliacaaLayers
import Derived.ProofKit
import Derived.OpenShut
import Derived.ShutString
import Derived.ChangeOld
namespace Go.Proofs.Ytclfgkpllliacaa.lawValidLayers
open Go.ChangeShapes Go.WideShapes Go.ChangeAt Go.RowKit
set_option linter.unusedVariables false

set_option maxHeartbeats 800000 in
theorem walk (A0 : Option Addr) (n0 m0 : Nat) (z0 : List Int) (w : World) (hr0 : Rd w 1 A0 n0 (ints z0)) (hn0 : n0 ≤ 9223372036854775807) :
    Calls Try.prog 10 #[.slice A0 n0 m0] w fun e w' => e = .returned (.bool true) ∧ Below w.heap.size w w' := by
  by_cases hbig : 1048576 < n0
  · go_enter Try.func10, Try.ntmps10
    go_wp2_with fail
    go_ret
    refine ⟨rfl, ?_⟩
    go_grown
  have hs : n0 ≤ 1048576 := by omega
  go_enter Try.func10, Try.ntmps10
  go_wp2_with fail
  refine (toInt64S_any _ _ _ _ _ hr0 hs).mono ?_
  rintro e w1 ⟨A1, c1, rfl, ho1, H1⟩
  obtain ⟨hc, hf⟩ := bcell H1
  go_wp2_with fail
  refine (sValidLayers_any _ _ _ _ _ (Rd.of_own ho1) (by omega)).mono ?_
  rintro e w2 ⟨rfl, hb2⟩
  have H2 := Bl.then H1 hb2
  clear hc hf
  obtain ⟨hc, hf⟩ := bcell H2
  have r2 := hr0.below H2
  go_wp2_with fail
  refine (toInt64S_any _ _ _ _ _ r2 hs).mono ?_
  rintro e w3 ⟨A2, c2, rfl, ho2, hb3⟩
  have H3 := Bl.then H2 hb3
  clear hc hf
  obtain ⟨hc, hf⟩ := bcell H3
  have x3 := Rd.of_own ho2
  go_wp2_with fail
  refine (ValidLayers_any _ _ _ _ _ x3 (by omega)).mono ?_
  rintro e w4 ⟨rfl, hb4⟩
  have H4 := Bl.then H3 hb4
  clear hc hf
  obtain ⟨hc, hf⟩ := bcell H4
  have x4 := x3.below hb4
  have r4 := hr0.below H4
  go_wp2_with fail
  refine (toInt64S_any _ _ _ _ _ r4 hs).mono ?_
  rintro e w5 ⟨A3, c3, rfl, ho3, hb5⟩
  have H5 := Bl.then H4 hb5
  clear hc hf
  obtain ⟨hc, hf⟩ := bcell H5
  have x5 := x4.below hb5
  go_wp2_with fail
  refine (eqInt64S_same _ _ _ _ _ _ _ x5 (Rd.of_own ho3) (by omega)).mono ?_
  rintro e w6 ⟨rfl, hb6⟩
  have H6 := Bl.then H5 hb6
  clear hc hf
  obtain ⟨hc, hf⟩ := bcell H6
  clear hc hf
  go_wp2_with fail
  go_ret
  exact ⟨rfl, Bl.then (by go_grown) H6⟩

/-! ### The row: the argument opened, the walk, and everything read again behind it. -/
set_option maxRecDepth 100000 in
theorem lifted (os : Os) (started : os.Started) (H : Type) (enc : TypeId × Value → H) :
    ReturnsInHanded {} Try.checked os 10 .any (Rows.fnExactValidLayersSpec.pre6 enc Try.prog Try.f10 Rows.fnExactValidLayersRow.domain false) (Rows.fnExactValidLayersSpec.post enc Try.prog Try.f10 false true false false) := by
  refine returnsInHanded_of_change (C := Try.checked) own started (by kernel_rfl) Try.func10
    (ChangeSpec.witness6 (enc := enc) (C := Try.checked) false ⟨#[], #[.slice none 0 0], []⟩ 8 (by kernel_rfl) (by kernel_rfl) (by kernel_rfl) (by kernel_rfl)) ?_
  intro W base args ds gs before hval0 hW hcnd _
  have hval : ∀ (j : Nat) t v, Try.f10.params[j]? = some t → args[j]? = some v → Value.okWide Try.prog W .any base t v := hval0
  have hW' := hW
  obtain ⟨p, q, hA0, hV, rfl, hfz, hnd⟩ := hW
  have hA : DataW.TrodAll enc Try.prog W 0 (fun _ => true) true Try.f10.params.toList args.toList ds p := hA0
  rw [Try.params10] at hA hval
  obtain ⟨v0, vs0, d0, ds0, p0, q0, hargs, rfl, rfl, h0, r0⟩ := trodAll_cons hA
  obtain ⟨rfl, rfl, rfl⟩ := trodAll_nil r0
  obtain rfl : args = #[v0] := by cases args; simp_all
  obtain ⟨rfl, rfl⟩ := trodVars_none hV
  have k0 := h0
  have lt0 : ∀ x ∈ p0, x.block < W.heap.size := by obtain ⟨m, hm⟩ := k0; exact DataW.trod_lt m _ _ _ hm
  obtain ⟨A0, n0, m0, rfl⟩ := okWide_slice Try.underlying50 (hval 0 50 v0 rfl rfl)
  obtain ⟨z0, hr0, hn0, -⟩ := open_Ints h0
  clear hA0 hval0
  refine (walk A0 n0 m0 z0 W hr0 hn0).mono fun e W' ⟨he, bel⟩ => ?_
  subst he
  exact ⟨_, rfl, _, _, _, [], _, [], hW', trodAll_mk1 (shut_bool Try.underlying4 _), (trodAll_cons_mk (Below.trod laidOut (by kernel_rfl) (of_decide_eq_true (by kernel_rfl)) k0 bel lt0) trodAll_mk0), rfl, bel.frame _, fun h => by cases h⟩

theorem over : Rows.fnExactValidLayersRow.holds Try.pinned (OpenSpec.ofChange Rows.fnExactValidLayersSpec) :=
  OpenClaim.holds_of_wide 10 Try.f10 rfl rfl rfl rfl rfl rfl rfl ⟨rfl, rfl, rfl, rfl, rfl⟩ rfl rfl rfl rfl rfl (by kernel_rfl) Try.func10 (by kernel_rfl)
    (of_decide_eq_true (by kernel_rfl)) (by unfold Func.isWrapper; first | (rw [if_pos (by decide +kernel)]; kernel_rfl) | (rw [if_neg (by decide +kernel)]; exact ⟨rfl, rfl⟩))
    (fun os started H enc _ => lifted os started H enc)

theorem proved : Rows.FnExactValidLayersSaid := over
end Go.Proofs.Ytclfgkpllliacaa.lawValidLayers
