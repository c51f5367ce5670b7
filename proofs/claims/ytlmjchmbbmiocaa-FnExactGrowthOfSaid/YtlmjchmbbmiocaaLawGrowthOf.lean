/-
  The law FnExactGrowthOf: the program's GrowthOf returns what the reference's returns; for all arguments, no condition.
-/
import Derived.Test.YtlmjchmbbmiocaaOpen
import Derived.Test.YtlmjchmbbmiocaaOpenS
import Derived.Test.YtlmjchmbbmiocaaTo
import Derived.Test.YtlmjchmbbmiocaaEqFr
import Derived.Test.YtlmjchmbbmiocaaGrow2
import Derived.ProofKit
import Derived.OpenShut
import Derived.ShutString
import Derived.ChangeOld
import Derived.Deep.RegionHeld3
namespace Go.Proofs.Ytlmjchmbbmiocaa.lawGrowthOf
open Go.ChangeShapes Go.WideShapes Go.ChangeAt Go.RowKit
set_option linter.unusedVariables false

set_option maxHeartbeats 800000 in
theorem walk (A0 : Option Addr) (n0 m0 : Nat) (z0 : List Int) (A1 : Option Addr) (n1 m1 : Nat) (z1 : List FootD) (w : World) (hr0 : Rd w 1 A0 n0 (ints z0)) (hn0 : n0 ≤ 9223372036854775807) (hr1 : Rd w 4 A1 n1 (feet z1)) (hn1 : n1 ≤ 9223372036854775807) :
    Calls Try.prog 5 #[.slice A0 n0 m0, .slice A1 n1 m1] w fun e w' => e = .returned (.bool true) ∧ Below w.heap.size w w' := by
  by_cases hbig0 : 1048576 < n0
  · go_enter Try.func5, Try.ntmps5
    go_wp2_with fail
    go_ret
    refine ⟨rfl, ?_⟩
    go_grown
  have hs0 : n0 ≤ 1048576 := by omega
  by_cases hbig1 : 1048576 < n1
  · go_enter Try.func5, Try.ntmps5
    go_wp2_with fail
    refine (szFootS_big _ _ _ _ _ (by omega) (by omega) (by omega) hn1).mono ?_
    rintro e w900 ⟨rfl, rfl⟩
    go_wp2_with fail
    go_ret
    refine ⟨rfl, ?_⟩
    go_grown
  have hs1 : n1 ≤ 1048576 := by omega
  go_enter Try.func5, Try.ntmps5
  have H0 : Below w.heap.size w w := Below.refl _ _
  go_wp2_with fail
  refine (szFootS_ok _ _ _ _ _ (by omega) (by omega)).mono ?_
  rintro e w900 ⟨rfl, rfl⟩
  go_wp2_with fail
  refine (toInt64S_any _ _ _ _ _ (hr0.below H0) hs0).mono ?_
  rintro e w1 ⟨As, cs, rfl, os_1, hb1⟩
  have H1 := Bl.then H0 hb1
  have Ls := Lib.hid os_1.lt
  go_wp2_with fail
  refine (toFootS_any _ _ _ _ _ (hr1.below H1) (by omega)).mono ?_
  rintro e w2 ⟨At, ct, rfl, ot_2, hb2⟩
  have H2 := Bl.then H1 hb2
  have s2 : w1.heap.size ≤ w2.heap.size := hb2.size
  have os_2 := own_below os_1 hb2
  have Lt := Lib.hid ot_2.lt
  go_wp2_with fail
  refine (sGrowthOf_any _ _ _ _ _ _ _ _ _ (Rd.of_own os_2) (Rd.of_own ot_2) (by omega) (by omega)).mono ?_
  rintro e w3 ⟨rfl, hb3⟩
  have H3 := Bl.then H2 hb3
  have s3 : w2.heap.size ≤ w3.heap.size := hb3.size
  have os_3 := own_below os_2 hb3
  have ot_3 := own_below ot_2 hb3
  go_wp2_with fail
  refine (toInt64S_any _ _ _ _ _ ((hr0.below H3).alloc (.cells #[.int .i64 (fNum (daysC z0 z1 0) (lowN (lineN z0 z1) (lineD z0 z1))), .int .i64 (fNum (daysC z0 z1 0) (lowD (lineN z0 z1) (lineD z0 z1)))] 40)) hs0).mono ?_
  rintro e w4 ⟨Ax, cx, rfl, ox_4, hb4⟩
  have H4 := Bl.then (Bl.alloc H3 (.cells #[.int .i64 (fNum (daysC z0 z1 0) (lowN (lineN z0 z1) (lineD z0 z1))), .int .i64 (fNum (daysC z0 z1 0) (lowD (lineN z0 z1) (lineD z0 z1)))] 40)) hb4
  have s4 : w3.heap.size ≤ w4.heap.size := Nat.le_trans (by simp) hb4.size
  have Bw_4 := (Blk.new w3 40 #[.int .i64 (fNum (daysC z0 z1 0) (lowN (lineN z0 z1) (lineD z0 z1))), .int .i64 (fNum (daysC z0 z1 0) (lowD (lineN z0 z1) (lineD z0 z1)))]).below hb4
  have Lx := Lib.hid ox_4.lt
  go_wp2_with fail
  refine (toFootS_any _ _ _ _ _ (hr1.below H4) (by omega)).mono ?_
  rintro e w5 ⟨Ay, cy, rfl, oy_5, hb5⟩
  have H5 := Bl.then H4 hb5
  have s5 : w4.heap.size ≤ w5.heap.size := hb5.size
  have ox_5 := own_below ox_4 hb5
  have Bw_5 := Bw_4.below hb5
  have Ly := Lib.hid oy_5.lt
  go_wp2_with fail
  refine (GrowthOf_any _ _ _ _ _ _ _ _ _ (Rd.of_own ox_5) (Rd.of_own oy_5) (by omega) (by omega)).mono ?_
  rintro e w6 ⟨rfl, hb6⟩
  have H6 := Bl.then H5 hb6
  have s6 : w5.heap.size ≤ w6.heap.size := hb6.size
  have ox_6 := own_below ox_5 hb6
  have oy_6 := own_below oy_5 hb6
  have Bw_6 := Bw_5.below hb6
  have kbw := (Bw_6.alloc (.cells #[.int .i64 (fNum (daysC z0 z1 0) (lowN (lineN z0 z1) (lineD z0 z1))), .int .i64 (fNum (daysC z0 z1 0) (lowD (lineN z0 z1) (lineD z0 z1)))] 40)).cell
  have lbw := (Bw_6.alloc (.cells #[.int .i64 (fNum (daysC z0 z1 0) (lowN (lineN z0 z1) (lineD z0 z1))), .int .i64 (fNum (daysC z0 z1 0) (lowD (lineN z0 z1) (lineD z0 z1)))] 40)).lt
  go_wp2_with fail
  refine (eqFractionV_same _ _ _).mono ?_
  rintro e w7 ⟨rfl, hb7⟩
  have H7 := Bl.then (Bl.alloc H6 (.cells #[.int .i64 (fNum (daysC z0 z1 0) (lowN (lineN z0 z1) (lineD z0 z1))), .int .i64 (fNum (daysC z0 z1 0) (lowD (lineN z0 z1) (lineD z0 z1)))] 40)) hb7
  have s7 : w6.heap.size ≤ w7.heap.size := Nat.le_trans (by simp) hb7.size
  have ox_7 := own_below (ox_6.alloc (.cells #[.int .i64 (fNum (daysC z0 z1 0) (lowN (lineN z0 z1) (lineD z0 z1))), .int .i64 (fNum (daysC z0 z1 0) (lowD (lineN z0 z1) (lineD z0 z1)))] 40)) hb7
  have oy_7 := own_below (oy_6.alloc (.cells #[.int .i64 (fNum (daysC z0 z1 0) (lowN (lineN z0 z1) (lineD z0 z1))), .int .i64 (fNum (daysC z0 z1 0) (lowD (lineN z0 z1) (lineD z0 z1)))] 40)) hb7
  have Bw_7 := (Bw_6.alloc (.cells #[.int .i64 (fNum (daysC z0 z1 0) (lowN (lineN z0 z1) (lineD z0 z1))), .int .i64 (fNum (daysC z0 z1 0) (lowD (lineN z0 z1) (lineD z0 z1)))] 40)).below hb7
  have Bg_7 := (Blk.new w6 40 #[.int .i64 (fNum (daysC z0 z1 0) (lowN (lineN z0 z1) (lineD z0 z1))), .int .i64 (fNum (daysC z0 z1 0) (lowD (lineN z0 z1) (lineD z0 z1)))]).below hb7
  clear kbw lbw
  go_wp2_with fail
  refine (toInt64S_any _ _ _ _ _ (hr0.below H7) hs0).mono ?_
  rintro e w8 ⟨Au, cu, rfl, ou_8, hb8⟩
  have H8 := Bl.then H7 hb8
  have s8 : w7.heap.size ≤ w8.heap.size := hb8.size
  have ox_8 := own_below ox_7 hb8
  have oy_8 := own_below oy_7 hb8
  have Bw_8 := Bw_7.below hb8
  have Bg_8 := Bg_7.below hb8
  have Lu := Lib.hid ou_8.lt
  go_wp2_with fail
  refine (eqInt64S_same _ _ _ _ _ _ _ (Rd.of_own ox_8) (Rd.of_own ou_8) (by omega)).mono ?_
  rintro e w9 ⟨rfl, hb9⟩
  have H9 := Bl.then H8 hb9
  have s9 : w8.heap.size ≤ w9.heap.size := hb9.size
  have ox_9 := own_below ox_8 hb9
  have oy_9 := own_below oy_8 hb9
  have ou_9 := own_below ou_8 hb9
  have Bw_9 := Bw_8.below hb9
  have Bg_9 := Bg_8.below hb9
  go_wp2_with fail
  refine (toFootS_any _ _ _ _ _ (hr1.below H9) (by omega)).mono ?_
  rintro e w10 ⟨Av, cv, rfl, ov_10, hb10⟩
  have H10 := Bl.then H9 hb10
  have s10 : w9.heap.size ≤ w10.heap.size := hb10.size
  have oy_10 := own_below oy_9 hb10
  have Bw_10 := Bw_9.below hb10
  have Bg_10 := Bg_9.below hb10
  have Lv := Lib.hid ov_10.lt
  go_wp2_with fail
  refine (eqFootS_same _ _ _ _ _ _ _ (Rd.of_own oy_10) (Rd.of_own ov_10) (by omega)).mono ?_
  rintro e w11 ⟨rfl, hb11⟩
  have H11 := Bl.then H10 hb11
  have s11 : w10.heap.size ≤ w11.heap.size := hb11.size
  have oy_11 := own_below oy_10 hb11
  have ov_11 := own_below ov_10 hb11
  have Bw_11 := Bw_10.below hb11
  have Bg_11 := Bg_10.below hb11
  go_wp2_with fail
  go_ret
  exact ⟨rfl, Bl.then (by go_grown) H11⟩

/-! ### The row: the argument opened, the walk, and everything read again behind it. -/
set_option maxRecDepth 100000 in
theorem lifted (os : Os) (started : os.Started) (H : Type) (enc : TypeId × Value → H) :
    ReturnsInHanded {} Try.checked os 5 .any (Rows.fnExactGrowthOfSpec.pre6 enc Try.prog Try.f5 Rows.fnExactGrowthOfRow.domain false) (Rows.fnExactGrowthOfSpec.post enc Try.prog Try.f5 false true false false) := by
  refine returnsInHanded_of_change (C := Try.checked) own started (by kernel_rfl) Try.func5
    (ChangeSpec.witness6 (enc := enc) (C := Try.checked) false ⟨#[], #[.slice none 0 0, .slice none 0 0], []⟩ 8 (by kernel_rfl) (by kernel_rfl) (by kernel_rfl) (by kernel_rfl)) ?_
  intro W base args ds gs before hval0 hW hcnd _
  have hval : ∀ (j : Nat) t v, Try.f5.params[j]? = some t → args[j]? = some v → Value.okWide Try.prog W .any base t v := hval0
  have hW' := hW
  obtain ⟨p, q, hA0, hV, rfl, hfz, hnd⟩ := hW
  have hA : DataW.TrodAll enc Try.prog W 0 (fun _ => true) true Try.f5.params.toList args.toList ds p := hA0
  rw [Try.params5] at hA hval
  obtain ⟨v0, vs0, d0, ds0, p0, q0, hargs, rfl, rfl, h0, r0⟩ := trodAll_cons hA
  obtain ⟨v1, vs1, d1, ds1, p1, q1, rfl, rfl, rfl, h1, r1⟩ := trodAll_cons r0
  obtain ⟨rfl, rfl, rfl⟩ := trodAll_nil r1
  obtain rfl : args = #[v0, v1] := by cases args; simp_all
  obtain ⟨rfl, rfl⟩ := trodVars_none hV
  have k0 := h0
  have lt0 : ∀ x ∈ p0, x.block < W.heap.size := by obtain ⟨m, hm⟩ := k0; exact DataW.trod_lt m _ _ _ hm
  have k1 := h1
  have lt1 : ∀ x ∈ p1, x.block < W.heap.size := by obtain ⟨m, hm⟩ := k1; exact DataW.trod_lt m _ _ _ hm
  obtain ⟨A0, n0, m0, rfl⟩ := okWide_slice Try.underlying31 (hval 0 31 v0 rfl rfl)
  obtain ⟨z0, hr0, hn0, -⟩ := open_Ints h0
  obtain ⟨A1, n1, m1, rfl⟩ := okWide_slice Try.underlying22 (hval 1 22 v1 rfl rfl)
  obtain ⟨z1, hr1, hn1⟩ := open_FootS h1
  clear hA0 hval0
  refine (walk A0 n0 m0 z0 A1 n1 m1 z1 W hr0 hn0 hr1 hn1).mono fun e W' ⟨he, bel⟩ => ?_
  subst he
  exact ⟨_, rfl, _, _, _, [], _, [], hW', trodAll_mk1 (shut_bool Try.underlying4 _), (trodAll_cons_mk (Below.trod laidOut (by kernel_rfl) (of_decide_eq_true (by kernel_rfl)) k0 bel lt0) (trodAll_cons_mk (Below.trod laidOut (by kernel_rfl) (of_decide_eq_true (by kernel_rfl)) k1 bel lt1) trodAll_mk0)), rfl, bel.frame _, fun h => by cases h⟩

theorem over : Rows.fnExactGrowthOfRow.holds Try.pinned (OpenSpec.ofChange Rows.fnExactGrowthOfSpec) :=
  OpenClaim.holds_of_wide 5 Try.f5 rfl rfl rfl rfl rfl rfl rfl ⟨rfl, rfl, rfl, rfl, rfl⟩ rfl rfl rfl rfl rfl (by kernel_rfl) Try.func5 (by kernel_rfl)
    (of_decide_eq_true (by kernel_rfl)) (by unfold Func.isWrapper; first | (rw [if_pos (by decide +kernel)]; kernel_rfl) | (rw [if_neg (by decide +kernel)]; exact ⟨rfl, rfl⟩))
    (fun os started H enc _ => lifted os started H enc)

theorem proved : Rows.FnExactGrowthOfSaid := over
end Go.Proofs.Ytlmjchmbbmiocaa.lawGrowthOf
