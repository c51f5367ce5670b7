/-
  The law FnExactSameLasts: the program's SameLasts returns what the reference's returns; for all arguments, no condition.
-/
import Derived.Test.YtgkkfofjaealoaaOpen
import Derived.Test.YtgkkfofjaealoaaOpenS
import Derived.Test.YtgkkfofjaealoaaSame
import Derived.ProofKit
import Derived.OpenShut
import Derived.ShutString
import Derived.ChangeOld
import Derived.Deep.RegionHeld3
namespace Go.Proofs.Ytgkkfofjaealoaa.lawSameLasts
open Go.ChangeShapes Go.WideShapes Go.ChangeAt Go.RowKit
set_option linter.unusedVariables false

set_option maxHeartbeats 800000 in
theorem walk (A0 : Option Addr) (n0 m0 : Nat) (z0 : List LastD) (A1 : Option Addr) (n1 m1 : Nat) (z1 : List LastD) (w : World) (hr0 : Rd w 6 A0 n0 (lasts z0)) (hn0 : n0 ≤ 9223372036854775807) (hx0 : ∀ x ∈ z0, x.s.size ≤ maxLen) (hr1 : Rd w 6 A1 n1 (lasts z1)) (hn1 : n1 ≤ 9223372036854775807) (hx1 : ∀ x ∈ z1, x.s.size ≤ maxLen) :
    Calls Try.prog 4 #[.slice A0 n0 m0, .slice A1 n1 m1] w fun e w' => e = .returned (.bool true) ∧ Below w.heap.size w w' := by
  go_enter Try.func4, Try.ntmps4
  have H0 : Below w.heap.size w w := Below.refl _ _
  go_wp2_with fail
  refine (szLastS_any _ _ _ _ _ _ hr0 hn0 hx0 (by omega) (by omega)).mono ?_
  rintro e w1 ⟨hb1, rfl | ⟨r1, rfl, ra1, rb1, rn1⟩⟩
  · have H1 := Bl.then H0 hb1
    go_wp2_with fail
    go_ret
    exact ⟨rfl, Bl.then (by go_grown) H1⟩
  have H1 := Bl.then H0 hb1
  go_wp2_with fail
  refine (szLastS_any _ _ _ _ _ _ (hr1.below H1) hn1 hx1 (by omega) (by omega)).mono ?_
  rintro e w2 ⟨hb2, rfl | ⟨r2, rfl, ra2, rb2, rn2⟩⟩
  · have H2 := Bl.then H1 hb2
    go_wp2_with fail
    go_ret
    exact ⟨rfl, Bl.then (by go_grown) H2⟩
  have H2 := Bl.then H1 hb2
  have s2 : w1.heap.size ≤ w2.heap.size := hb2.size
  go_wp2_with fail
  refine (toLastS_any _ _ _ _ _ (hr0.below H2) (by omega)).mono ?_
  rintro e w3 ⟨As, cs, rfl, os_3, hb3⟩
  have H3 := Bl.then H2 hb3
  have s3 : w2.heap.size ≤ w3.heap.size := hb3.size
  have Ls := Lib.hid os_3.lt
  go_wp2_with fail
  refine (toLastS_any _ _ _ _ _ (hr1.below H3) (by omega)).mono ?_
  rintro e w4 ⟨At, ct, rfl, ot_4, hb4⟩
  have H4 := Bl.then H3 hb4
  have s4 : w3.heap.size ≤ w4.heap.size := hb4.size
  have os_4 := own_below os_3 hb4
  have Lt := Lib.hid ot_4.lt
  go_wp2_with fail
  refine (sSameLasts_any _ _ _ _ _ _ _ _ _ (Rd.of_own os_4) (Rd.of_own ot_4) (by omega) (by omega)).mono ?_
  rintro e w5 ⟨rfl, hb5⟩
  have H5 := Bl.then H4 hb5
  have s5 : w4.heap.size ≤ w5.heap.size := hb5.size
  have os_5 := own_below os_4 hb5
  have ot_5 := own_below ot_4 hb5
  go_wp2_with fail
  refine (toLastS_any _ _ _ _ _ (hr0.below H5) (by omega)).mono ?_
  rintro e w6 ⟨Ax, cx, rfl, ox_6, hb6⟩
  have H6 := Bl.then H5 hb6
  have s6 : w5.heap.size ≤ w6.heap.size := hb6.size
  have Lx := Lib.hid ox_6.lt
  go_wp2_with fail
  refine (toLastS_any _ _ _ _ _ (hr1.below H6) (by omega)).mono ?_
  rintro e w7 ⟨Au, cu, rfl, ou_7, hb7⟩
  have H7 := Bl.then H6 hb7
  have s7 : w6.heap.size ≤ w7.heap.size := hb7.size
  have ox_7 := own_below ox_6 hb7
  have Lu := Lib.hid ou_7.lt
  go_wp2_with fail
  refine (SameLasts_any _ _ _ _ _ _ _ _ _ (Rd.of_own ox_7) (Rd.of_own ou_7) (by omega) (by omega)).mono ?_
  rintro e w8 ⟨rfl, hb8⟩
  have H8 := Bl.then H7 hb8
  have s8 : w7.heap.size ≤ w8.heap.size := hb8.size
  have ox_8 := own_below ox_7 hb8
  have ou_8 := own_below ou_7 hb8
  go_wp2_with fail
  refine (toLastS_any _ _ _ _ _ (hr0.below H8) (by omega)).mono ?_
  rintro e w9 ⟨Ay, cy, rfl, oy_9, hb9⟩
  have H9 := Bl.then H8 hb9
  have s9 : w8.heap.size ≤ w9.heap.size := hb9.size
  have ox_9 := own_below ox_8 hb9
  have ou_9 := own_below ou_8 hb9
  have Ly := Lib.hid oy_9.lt
  go_wp2_with fail
  refine (eqLastS_same _ _ _ _ _ _ _ (Rd.of_own ox_9) (Rd.of_own oy_9) (by omega)).mono ?_
  rintro e w10 ⟨rfl, hb10⟩
  have H10 := Bl.then H9 hb10
  have s10 : w9.heap.size ≤ w10.heap.size := hb10.size
  have ox_10 := own_below ox_9 hb10
  have ou_10 := own_below ou_9 hb10
  have oy_10 := own_below oy_9 hb10
  go_wp2_with fail
  refine (toLastS_any _ _ _ _ _ (hr1.below H10) (by omega)).mono ?_
  rintro e w11 ⟨Ay, cy, rfl, oy_11, hb11⟩
  have H11 := Bl.then H10 hb11
  have s11 : w10.heap.size ≤ w11.heap.size := hb11.size
  have ox_11 := own_below ox_10 hb11
  have ou_11 := own_below ou_10 hb11
  have Ly := Lib.hid oy_11.lt
  go_wp2_with fail
  refine (eqLastS_same _ _ _ _ _ _ _ (Rd.of_own ou_11) (Rd.of_own oy_11) (by omega)).mono ?_
  rintro e w12 ⟨rfl, hb12⟩
  have H12 := Bl.then H11 hb12
  have s12 : w11.heap.size ≤ w12.heap.size := hb12.size
  have ox_12 := own_below ox_11 hb12
  have ou_12 := own_below ou_11 hb12
  have oy_12 := own_below oy_11 hb12
  go_wp2_with fail
  go_ret
  exact ⟨rfl, Bl.then (by go_grown) H12⟩

/-! ### The row: the argument opened, the walk, and everything read again behind it. -/
set_option maxRecDepth 100000 in
theorem lifted (os : Os) (started : os.Started) (H : Type) (enc : TypeId × Value → H) :
    ReturnsInHanded {} Try.checked os 4 .any (Rows.fnExactSameLastsSpec.pre6 enc Try.prog Try.f4 Rows.fnExactSameLastsRow.domain false) (Rows.fnExactSameLastsSpec.post enc Try.prog Try.f4 false true false false) := by
  refine returnsInHanded_of_change (C := Try.checked) own started (by kernel_rfl) Try.func4
    (ChangeSpec.witness6 (enc := enc) (C := Try.checked) false ⟨#[], #[.slice none 0 0, .slice none 0 0], []⟩ 8 (by kernel_rfl) (by kernel_rfl) (by kernel_rfl) (by kernel_rfl)) ?_
  intro W base args ds gs before hval0 hW hcnd _
  have hval : ∀ (j : Nat) t v, Try.f4.params[j]? = some t → args[j]? = some v → Value.okWide Try.prog W .any base t v := hval0
  have hW' := hW
  obtain ⟨p, q, hA0, hV, rfl, hfz, hnd⟩ := hW
  have hA : DataW.TrodAll enc Try.prog W 0 (fun _ => true) true Try.f4.params.toList args.toList ds p := hA0
  rw [Try.params4] at hA hval
  obtain ⟨v0, vs0, d0, ds0, p0, q0, hargs, rfl, rfl, h0, r0⟩ := trodAll_cons hA
  obtain ⟨v1, vs1, d1, ds1, p1, q1, rfl, rfl, rfl, h1, r1⟩ := trodAll_cons r0
  obtain ⟨rfl, rfl, rfl⟩ := trodAll_nil r1
  obtain rfl : args = #[v0, v1] := by cases args; simp_all
  obtain ⟨rfl, rfl⟩ := trodVars_none hV
  have k0 := h0
  have lt0 : ∀ x ∈ p0, x.block < W.heap.size := by obtain ⟨m, hm⟩ := k0; exact DataW.trod_lt m _ _ _ hm
  have k1 := h1
  have lt1 : ∀ x ∈ p1, x.block < W.heap.size := by obtain ⟨m, hm⟩ := k1; exact DataW.trod_lt m _ _ _ hm
  obtain ⟨A0, n0, m0, rfl⟩ := okWide_slice Try.underlying22 (hval 0 22 v0 rfl rfl)
  obtain ⟨z0, hr0, hn0, hx0⟩ := open_LastS h0
  obtain ⟨A1, n1, m1, rfl⟩ := okWide_slice Try.underlying22 (hval 1 22 v1 rfl rfl)
  obtain ⟨z1, hr1, hn1, hx1⟩ := open_LastS h1
  clear hA0 hval0
  refine (walk A0 n0 m0 z0 A1 n1 m1 z1 W hr0 hn0 hx0 hr1 hn1 hx1).mono fun e W' ⟨he, bel⟩ => ?_
  subst he
  exact ⟨_, rfl, _, _, _, [], _, [], hW', trodAll_mk1 (shut_bool Try.underlying4 _), (trodAll_cons_mk (Below.trod laidOut (by kernel_rfl) (of_decide_eq_true (by kernel_rfl)) k0 bel lt0) (trodAll_cons_mk (Below.trod laidOut (by kernel_rfl) (of_decide_eq_true (by kernel_rfl)) k1 bel lt1) trodAll_mk0)), rfl, bel.frame _, fun h => by cases h⟩

theorem over : Rows.fnExactSameLastsRow.holds Try.pinned (OpenSpec.ofChange Rows.fnExactSameLastsSpec) :=
  OpenClaim.holds_of_wide 4 Try.f4 rfl rfl rfl rfl rfl rfl rfl ⟨rfl, rfl, rfl, rfl, rfl⟩ rfl rfl rfl rfl rfl (by kernel_rfl) Try.func4 (by kernel_rfl)
    (of_decide_eq_true (by kernel_rfl)) (by unfold Func.isWrapper; first | (rw [if_pos (by decide +kernel)]; kernel_rfl) | (rw [if_neg (by decide +kernel)]; exact ⟨rfl, rfl⟩))
    (fun os started H enc _ => lifted os started H enc)

theorem proved : Rows.FnExactSameLastsSaid := over
end Go.Proofs.Ytgkkfofjaealoaa.lawSameLasts
