/-
  The law FnExactLengthOn: the program's LengthOn returns what the reference's returns; for all arguments, no condition.
-/
import Derived.Test.YtlmjchmbbmiocaaOpen
import Derived.Test.YtlmjchmbbmiocaaOpenS
import Derived.Test.YtlmjchmbbmiocaaTo
import Derived.Test.YtlmjchmbbmiocaaGrow2
import Derived.ProofKit
import Derived.OpenShut
import Derived.ShutString
import Derived.ChangeOld
import Derived.Deep.RegionHeld3
namespace Go.Proofs.Ytlmjchmbbmiocaa.lawLengthOn
open Go.ChangeShapes Go.WideShapes Go.ChangeAt Go.RowKit
set_option linter.unusedVariables false

set_option maxHeartbeats 800000 in
theorem walk (A0 : Option Addr) (n0 m0 : Nat) (z0 : List Int) (A1 : Option Addr) (n1 m1 : Nat) (z1 : List FootD) (x2 : Int) (w : World) (hr0 : Rd w 1 A0 n0 (ints z0)) (hn0 : n0 ≤ 9223372036854775807) (hr1 : Rd w 4 A1 n1 (feet z1)) (hn1 : n1 ≤ 9223372036854775807) :
    Calls Try.prog 6 #[.slice A0 n0 m0, .slice A1 n1 m1, .int .i64 x2] w fun e w' => e = .returned (.bool true) ∧ Below w.heap.size w w' := by
  by_cases hbig0 : 1048576 < n0
  · go_enter Try.func6, Try.ntmps6
    go_wp2_with fail
    go_ret
    refine ⟨rfl, ?_⟩
    go_grown
  have hs0 : n0 ≤ 1048576 := by omega
  by_cases hbig1 : 1048576 < n1
  · go_enter Try.func6, Try.ntmps6
    go_wp2_with fail
    refine (szFootS_big _ _ _ _ _ (by omega) (by omega) (by omega) hn1).mono ?_
    rintro e w900 ⟨rfl, rfl⟩
    go_wp2_with fail
    go_ret
    refine ⟨rfl, ?_⟩
    go_grown
  have hs1 : n1 ≤ 1048576 := by omega
  go_enter Try.func6, Try.ntmps6
  have H0 : Below w.heap.size w w := Below.refl _ _
  go_wp2_with fail
  refine (szFootS_ok _ _ _ _ _ (by omega) (by omega)).mono ?_
  rintro e w900 ⟨rfl, rfl⟩
  go_wp2_with fail
  refine (toInt64S_any _ _ _ _ _ (hr0.below H0) hs0).mono ?_
  rintro e w1 ⟨As, cs, rfl, os_1, hb1⟩
  have H1 := Bl.then H0 hb1
  have Ls := Lib.hid os_1.lt
  go_wp2_with fail
  refine (toFootS_any _ _ _ _ _ (hr1.below H1) (by omega)).mono ?_
  rintro e w2 ⟨At, ct, rfl, ot_2, hb2⟩
  have H2 := Bl.then H1 hb2
  have s2 : w1.heap.size ≤ w2.heap.size := hb2.size
  have os_2 := own_below os_1 hb2
  have Lt := Lib.hid ot_2.lt
  go_wp2_with fail
  refine (sLengthOn_any _ _ _ _ _ _ _ _ _ _ (Rd.of_own os_2) (Rd.of_own ot_2) (by omega) (by omega)).mono ?_
  rintro e w3 ⟨rfl, hb3⟩
  have H3 := Bl.then H2 hb3
  have s3 : w2.heap.size ≤ w3.heap.size := hb3.size
  have os_3 := own_below os_2 hb3
  have ot_3 := own_below ot_2 hb3
  go_wp2_with fail
  refine (toInt64S_any _ _ _ _ _ (hr0.below H3) hs0).mono ?_
  rintro e w4 ⟨Ax, cx, rfl, ox_4, hb4⟩
  have H4 := Bl.then H3 hb4
  have s4 : w3.heap.size ≤ w4.heap.size := hb4.size
  have Lx := Lib.hid ox_4.lt
  go_wp2_with fail
  refine (toFootS_any _ _ _ _ _ (hr1.below H4) (by omega)).mono ?_
  rintro e w5 ⟨Ay, cy, rfl, oy_5, hb5⟩
  have H5 := Bl.then H4 hb5
  have s5 : w4.heap.size ≤ w5.heap.size := hb5.size
  have ox_5 := own_below ox_4 hb5
  have Ly := Lib.hid oy_5.lt
  go_wp2_with fail
  refine (LengthOn_any _ _ _ _ _ _ _ _ _ _ (Rd.of_own ox_5) (Rd.of_own oy_5) (by omega) (by omega)).mono ?_
  rintro e w6 ⟨rfl, hb6⟩
  have H6 := Bl.then H5 hb6
  have s6 : w5.heap.size ≤ w6.heap.size := hb6.size
  have ox_6 := own_below ox_5 hb6
  have oy_6 := own_below oy_5 hb6
  go_wp2_with fail
  refine (toInt64S_any _ _ _ _ _ (hr0.below H6) hs0).mono ?_
  rintro e w7 ⟨Au, cu, rfl, ou_7, hb7⟩
  have H7 := Bl.then H6 hb7
  have s7 : w6.heap.size ≤ w7.heap.size := hb7.size
  have ox_7 := own_below ox_6 hb7
  have oy_7 := own_below oy_6 hb7
  have Lu := Lib.hid ou_7.lt
  go_wp2_with fail
  refine (eqInt64S_same _ _ _ _ _ _ _ (Rd.of_own ox_7) (Rd.of_own ou_7) (by omega)).mono ?_
  rintro e w8 ⟨rfl, hb8⟩
  have H8 := Bl.then H7 hb8
  have s8 : w7.heap.size ≤ w8.heap.size := hb8.size
  have ox_8 := own_below ox_7 hb8
  have oy_8 := own_below oy_7 hb8
  have ou_8 := own_below ou_7 hb8
  go_wp2_with fail
  refine (toFootS_any _ _ _ _ _ (hr1.below H8) (by omega)).mono ?_
  rintro e w9 ⟨Av, cv, rfl, ov_9, hb9⟩
  have H9 := Bl.then H8 hb9
  have s9 : w8.heap.size ≤ w9.heap.size := hb9.size
  have oy_9 := own_below oy_8 hb9
  have Lv := Lib.hid ov_9.lt
  go_wp2_with fail
  refine (eqFootS_same _ _ _ _ _ _ _ (Rd.of_own oy_9) (Rd.of_own ov_9) (by omega)).mono ?_
  rintro e w10 ⟨rfl, hb10⟩
  have H10 := Bl.then H9 hb10
  have s10 : w9.heap.size ≤ w10.heap.size := hb10.size
  have oy_10 := own_below oy_9 hb10
  have ov_10 := own_below ov_9 hb10
  go_wp2_with fail
  go_ret
  exact ⟨rfl, Bl.then (by go_grown) H10⟩

/-! ### The row: the argument opened, the walk, and everything read again behind it. -/
set_option maxRecDepth 100000 in
theorem lifted (os : Os) (started : os.Started) (H : Type) (enc : TypeId × Value → H) :
    ReturnsInHanded {} Try.checked os 6 .any (Rows.fnExactLengthOnSpec.pre6 enc Try.prog Try.f6 Rows.fnExactLengthOnRow.domain false) (Rows.fnExactLengthOnSpec.post enc Try.prog Try.f6 false true false false) := by
  refine returnsInHanded_of_change (C := Try.checked) own started (by kernel_rfl) Try.func6
    (ChangeSpec.witness6 (enc := enc) (C := Try.checked) false ⟨#[], #[.slice none 0 0, .slice none 0 0, .int .i64 0], []⟩ 8 (by kernel_rfl) (by kernel_rfl) (by kernel_rfl) (by kernel_rfl)) ?_
  intro W base args ds gs before hval0 hW hcnd _
  have hval : ∀ (j : Nat) t v, Try.f6.params[j]? = some t → args[j]? = some v → Value.okWide Try.prog W .any base t v := hval0
  have hW' := hW
  obtain ⟨p, q, hA0, hV, rfl, hfz, hnd⟩ := hW
  have hA : DataW.TrodAll enc Try.prog W 0 (fun _ => true) true Try.f6.params.toList args.toList ds p := hA0
  rw [Try.params6] at hA hval
  obtain ⟨v0, vs0, d0, ds0, p0, q0, hargs, rfl, rfl, h0, r0⟩ := trodAll_cons hA
  obtain ⟨v1, vs1, d1, ds1, p1, q1, rfl, rfl, rfl, h1, r1⟩ := trodAll_cons r0
  obtain ⟨v2, vs2, d2, ds2, p2, q2, rfl, rfl, rfl, h2, r2⟩ := trodAll_cons r1
  obtain ⟨rfl, rfl, rfl⟩ := trodAll_nil r2
  obtain rfl : args = #[v0, v1, v2] := by cases args; simp_all
  obtain ⟨rfl, rfl⟩ := trodVars_none hV
  have k0 := h0
  have lt0 : ∀ x ∈ p0, x.block < W.heap.size := by obtain ⟨m, hm⟩ := k0; exact DataW.trod_lt m _ _ _ hm
  have k1 := h1
  have lt1 : ∀ x ∈ p1, x.block < W.heap.size := by obtain ⟨m, hm⟩ := k1; exact DataW.trod_lt m _ _ _ hm
  have k2 := h2
  have lt2 : ∀ x ∈ p2, x.block < W.heap.size := by obtain ⟨m, hm⟩ := k2; exact DataW.trod_lt m _ _ _ hm
  obtain ⟨A0, n0, m0, rfl⟩ := okWide_slice Try.underlying31 (hval 0 31 v0 rfl rfl)
  obtain ⟨z0, hr0, hn0, -⟩ := open_Ints h0
  obtain ⟨A1, n1, m1, rfl⟩ := okWide_slice Try.underlying22 (hval 1 22 v1 rfl rfl)
  obtain ⟨z1, hr1, hn1⟩ := open_FootS h1
  obtain ⟨x2, rfl, rfl, rfl, wf2⟩ := open_int Try.underlying2 (hval 2 2 v2 rfl rfl) h2
  clear hA0 hval0
  refine (walk A0 n0 m0 z0 A1 n1 m1 z1 x2 W hr0 hn0 hr1 hn1).mono fun e W' ⟨he, bel⟩ => ?_
  subst he
  exact ⟨_, rfl, _, _, _, [], _, [], hW', trodAll_mk1 (shut_bool Try.underlying4 _), (trodAll_cons_mk (Below.trod laidOut (by kernel_rfl) (of_decide_eq_true (by kernel_rfl)) k0 bel lt0) (trodAll_cons_mk (Below.trod laidOut (by kernel_rfl) (of_decide_eq_true (by kernel_rfl)) k1 bel lt1) (trodAll_cons_mk (Below.trod laidOut (by kernel_rfl) (of_decide_eq_true (by kernel_rfl)) k2 bel lt2) trodAll_mk0))), rfl, bel.frame _, fun h => by cases h⟩

theorem over : Rows.fnExactLengthOnRow.holds Try.pinned (OpenSpec.ofChange Rows.fnExactLengthOnSpec) :=
  OpenClaim.holds_of_wide 6 Try.f6 rfl rfl rfl rfl rfl rfl rfl ⟨rfl, rfl, rfl, rfl, rfl⟩ rfl rfl rfl rfl rfl (by kernel_rfl) Try.func6 (by kernel_rfl)
    (of_decide_eq_true (by kernel_rfl)) (by unfold Func.isWrapper; first | (rw [if_pos (by decide +kernel)]; kernel_rfl) | (rw [if_neg (by decide +kernel)]; exact ⟨rfl, rfl⟩))
    (fun os started H enc _ => lifted os started H enc)

theorem proved : Rows.FnExactLengthOnSaid := over
end Go.Proofs.Ytlmjchmbbmiocaa.lawLengthOn
