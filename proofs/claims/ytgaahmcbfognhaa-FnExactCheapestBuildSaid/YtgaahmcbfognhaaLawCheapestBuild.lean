/-
  The law FnExactCheapestBuild: the program's CheapestBuild returns what the reference's returns; for all arguments, no condition.
-/
import Derived.Test.YtgaahmcbfognhaaOpen
import Derived.Test.YtgaahmcbfognhaaBldD
import Derived.ProofKit
import Derived.OpenShut
import Derived.ShutString
import Derived.ChangeOld
import Derived.Deep.RegionHeld3
namespace Go.Proofs.Ytgaahmcbfognhaa.lawCheapestBuild
open Go.ChangeShapes Go.WideShapes Go.ChangeAt Go.RowKit
set_option linter.unusedVariables false

set_option maxHeartbeats 800000 in
theorem walk (A0 : Option Addr) (n0 m0 : Nat) (z0 : List Int) (A1 : Option Addr) (n1 m1 : Nat) (z1 : List Int) (x2 : Int) (w : World) (hr0 : Rd w 1 A0 n0 (ints z0)) (hn0 : n0 ≤ 9223372036854775807) (hr1 : Rd w 1 A1 n1 (ints z1)) (hn1 : n1 ≤ 9223372036854775807) :
    Calls Try.prog 5 #[.slice A0 n0 m0, .slice A1 n1 m1, .int .i64 x2] w fun e w' => e = .returned (.bool true) ∧ Below w.heap.size w w' := by
  by_cases hbig0 : 1048576 < n0
  · go_enter Try.func5, Try.ntmps5
    go_wp2_with fail
    go_ret
    refine ⟨rfl, ?_⟩
    go_grown
  have hs0 : n0 ≤ 1048576 := by omega
  by_cases hbig1 : 1048576 < n1
  · go_enter Try.func5, Try.ntmps5
    go_wp2_with fail
    go_ret
    refine ⟨rfl, ?_⟩
    go_grown
  have hs1 : n1 ≤ 1048576 := by omega
  have hlen : (cbR z0 z1 x2).1.length ≤ 1048577 := (cbR_len z0 z1 x2)
  go_enter Try.func5, Try.ntmps5
  have H0 : Below w.heap.size w w := Below.refl _ _
  go_wp2_with fail
  refine (toInt64S_any _ _ _ _ _ (hr0.below H0) hs0).mono ?_
  rintro e w1 ⟨As0, cs0, rfl, os0_1, hb1⟩
  have H1 := Bl.then H0 hb1
  have Ls0 := Lib.hid os0_1.lt
  go_wp2_with fail
  refine (toInt64S_any _ _ _ _ _ (hr1.below H1) hs1).mono ?_
  rintro e w2 ⟨As1, cs1, rfl, os1_2, hb2⟩
  have H2 := Bl.then H1 hb2
  have s2 : w1.heap.size ≤ w2.heap.size := hb2.size
  have os0_2 := own_below os0_1 hb2
  have Ls1 := Lib.hid os1_2.lt
  go_wp2_with fail
  refine (sCheapestBuild_any _ _ _ _ _ _ _ _ _ _ (Rd.of_own os0_2) (Rd.of_own os1_2) hs0 hs1).mono ?_
  rintro e w3 ⟨Aw, cw, rfl, ow_3, hb3⟩
  have H3 := Bl.then H2 hb3
  have s3 : w2.heap.size ≤ w3.heap.size := hb3.size
  have os0_3 := own_below os0_2 hb3
  have os1_3 := own_below os1_2 hb3
  have Lw := Lib.hid ow_3.lt
  go_wp2_with fail
  refine (toInt64S_any _ _ _ _ _ (hr0.below H3) hs0).mono ?_
  rintro e w4 ⟨Ax0, cx0, rfl, ox0_4, hb4⟩
  have H4 := Bl.then H3 hb4
  have s4 : w3.heap.size ≤ w4.heap.size := hb4.size
  have ow_4 := own_below ow_3 hb4
  have Lx0 := Lib.hid ox0_4.lt
  go_wp2_with fail
  refine (toInt64S_any _ _ _ _ _ (hr1.below H4) hs1).mono ?_
  rintro e w5 ⟨Ax1, cx1, rfl, ox1_5, hb5⟩
  have H5 := Bl.then H4 hb5
  have s5 : w4.heap.size ≤ w5.heap.size := hb5.size
  have ow_5 := own_below ow_4 hb5
  have ox0_5 := own_below ox0_4 hb5
  have Lx1 := Lib.hid ox1_5.lt
  go_wp2_with fail
  refine (CheapestBuild_any _ _ _ _ _ _ _ _ _ _ (Rd.of_own ox0_5) (Rd.of_own ox1_5) hs0 hs1).mono ?_
  rintro e w6 ⟨Ag, cg, rfl, og_6, hb6⟩
  have H6 := Bl.then H5 hb6
  have s6 : w5.heap.size ≤ w6.heap.size := hb6.size
  have ow_6 := own_below ow_5 hb6
  have ox0_6 := own_below ox0_5 hb6
  have ox1_6 := own_below ox1_5 hb6
  have Lg := Lib.hid og_6.lt
  go_wp2_with fail
  refine (eqInt64S_same _ _ _ _ _ _ _ (Rd.of_own og_6) (Rd.of_own ow_6) (by omega)).mono ?_
  rintro e w7 ⟨rfl, hb7⟩
  have H7 := Bl.then H6 hb7
  have s7 : w6.heap.size ≤ w7.heap.size := hb7.size
  have ow_7 := own_below ow_6 hb7
  have ox0_7 := own_below ox0_6 hb7
  have ox1_7 := own_below ox1_6 hb7
  have og_7 := own_below og_6 hb7
  go_wp2_with fail
  refine (toInt64S_any _ _ _ _ _ (hr0.below H7) hs0).mono ?_
  rintro e w8 ⟨Ay0, cy0, rfl, oy0_8, hb8⟩
  have H8 := Bl.then H7 hb8
  have s8 : w7.heap.size ≤ w8.heap.size := hb8.size
  have ow_8 := own_below ow_7 hb8
  have ox0_8 := own_below ox0_7 hb8
  have ox1_8 := own_below ox1_7 hb8
  have og_8 := own_below og_7 hb8
  have Ly0 := Lib.hid oy0_8.lt
  go_wp2_with fail
  refine (eqInt64S_same _ _ _ _ _ _ _ (Rd.of_own ox0_8) (Rd.of_own oy0_8) (by omega)).mono ?_
  rintro e w9 ⟨rfl, hb9⟩
  have H9 := Bl.then H8 hb9
  have s9 : w8.heap.size ≤ w9.heap.size := hb9.size
  have ow_9 := own_below ow_8 hb9
  have ox0_9 := own_below ox0_8 hb9
  have ox1_9 := own_below ox1_8 hb9
  have og_9 := own_below og_8 hb9
  have oy0_9 := own_below oy0_8 hb9
  go_wp2_with fail
  refine (toInt64S_any _ _ _ _ _ (hr1.below H9) hs1).mono ?_
  rintro e w10 ⟨Ay1, cy1, rfl, oy1_10, hb10⟩
  have H10 := Bl.then H9 hb10
  have s10 : w9.heap.size ≤ w10.heap.size := hb10.size
  have ow_10 := own_below ow_9 hb10
  have ox0_10 := own_below ox0_9 hb10
  have ox1_10 := own_below ox1_9 hb10
  have og_10 := own_below og_9 hb10
  have Ly1 := Lib.hid oy1_10.lt
  go_wp2_with fail
  refine (eqInt64S_same _ _ _ _ _ _ _ (Rd.of_own ox1_10) (Rd.of_own oy1_10) (by omega)).mono ?_
  rintro e w11 ⟨rfl, hb11⟩
  have H11 := Bl.then H10 hb11
  have s11 : w10.heap.size ≤ w11.heap.size := hb11.size
  have ow_11 := own_below ow_10 hb11
  have ox0_11 := own_below ox0_10 hb11
  have ox1_11 := own_below ox1_10 hb11
  have og_11 := own_below og_10 hb11
  have oy1_11 := own_below oy1_10 hb11
  go_wp2_with fail
  refine (markInt64S_any _ _ _ _ _ _ _ ox0_11 (by omega) (by omega)).mono ?_
  rintro e w12 ⟨rfl, p0, mp0, ox0_12, hg12⟩
  have H12 := mark_below H11 ox0_11 (H3.size) hg12
  have s12 : w11.heap.size ≤ w12.heap.size := hg12.size
  have ow_12 := keep_own ow_11 hg12 (dis_of Lw Lx0 (by omega))
  have ox1_12 := keep_own ox1_11 hg12 (dis_of Lx1 Lx0 (by omega))
  have og_12 := keep_own og_11 hg12 (dis_of Lg Lx0 (by omega))
  go_wp2_with fail
  refine (markInt64S_any _ _ _ _ _ _ _ ox1_12 (by omega) (by omega)).mono ?_
  rintro e w13 ⟨rfl, p1, mp1, ox1_13, hg13⟩
  have H13 := mark_below H12 ox1_12 (H4.size) hg13
  have s13 : w12.heap.size ≤ w13.heap.size := hg13.size
  have ow_13 := keep_own ow_12 hg13 (dis_of Lw Lx1 (by omega))
  have ox0_13 := keep_own ox0_12 hg13 (dis_of Lx0 Lx1 (by omega))
  have og_13 := keep_own og_12 hg13 (dis_of Lg Lx1 (by omega))
  go_wp2_with fail
  refine (eqInt64S_same _ _ _ _ _ _ _ (Rd.of_own og_13) (Rd.of_own ow_13) (by omega)).mono ?_
  rintro e w14 ⟨rfl, hb14⟩
  have H14 := Bl.then H13 hb14
  have s14 : w13.heap.size ≤ w14.heap.size := hb14.size
  have ow_14 := own_below ow_13 hb14
  have og_14 := own_below og_13 hb14
  go_wp2_with fail
  refine (markInt64S_any _ _ _ _ _ _ _ og_14 (by omega) (by omega)).mono ?_
  rintro e w15 ⟨rfl, u, mu, og_15, hg15⟩
  have H15 := mark_below H14 og_14 (H5.size) hg15
  have s15 : w14.heap.size ≤ w15.heap.size := hg15.size
  have ow_15 := keep_own ow_14 hg15 (dis_of Lw Lg (by omega))
  go_wp2_with fail
  refine (heldInt64S_any _ _ _ _ _ _ (Rd.of_own og_15) mu (by omega) (by omega)).mono ?_
  rintro e w16 ⟨rfl, hb16⟩
  have H16 := Bl.then H15 hb16
  have s16 : w15.heap.size ≤ w16.heap.size := hb16.size
  have ow_16 := own_below ow_15 hb16
  have og_16 := own_below og_15 hb16
  go_wp2_with fail
  refine (toInt64S_any _ _ _ _ _ (hr0.below H16) hs0).mono ?_
  rintro e w17 ⟨Ah0, ch0, rfl, oh0_17, hb17⟩
  have H17 := Bl.then H16 hb17
  have s17 : w16.heap.size ≤ w17.heap.size := hb17.size
  have ow_17 := own_below ow_16 hb17
  have og_17 := own_below og_16 hb17
  have Lh0 := Lib.hid oh0_17.lt
  go_wp2_with fail
  refine (toInt64S_any _ _ _ _ _ (hr1.below H17) hs1).mono ?_
  rintro e w18 ⟨Ah1, ch1, rfl, oh1_18, hb18⟩
  have H18 := Bl.then H17 hb18
  have s18 : w17.heap.size ≤ w18.heap.size := hb18.size
  have ow_18 := own_below ow_17 hb18
  have og_18 := own_below og_17 hb18
  have oh0_18 := own_below oh0_17 hb18
  have Lh1 := Lib.hid oh1_18.lt
  go_wp2_with fail
  refine (CheapestBuild_any _ _ _ _ _ _ _ _ _ _ (Rd.of_own oh0_18) (Rd.of_own oh1_18) hs0 hs1).mono ?_
  rintro e w19 ⟨Ak, ck, rfl, ok_19, hb19⟩
  have H19 := Bl.then H18 hb19
  have s19 : w18.heap.size ≤ w19.heap.size := hb19.size
  have ow_19 := own_below ow_18 hb19
  have og_19 := own_below og_18 hb19
  have oh0_19 := own_below oh0_18 hb19
  have oh1_19 := own_below oh1_18 hb19
  have Lk := Lib.hid ok_19.lt
  go_wp2_with fail
  refine (eqInt64S_same _ _ _ _ _ _ _ (Rd.of_own ok_19) (Rd.of_own ow_19) (by omega)).mono ?_
  rintro e w20 ⟨rfl, hb20⟩
  have H20 := Bl.then H19 hb20
  have s20 : w19.heap.size ≤ w20.heap.size := hb20.size
  have ow_20 := own_below ow_19 hb20
  have og_20 := own_below og_19 hb20
  have ok_20 := own_below ok_19 hb20
  go_wp2_with fail
  refine (heldInt64S_any _ _ _ _ _ _ (Rd.of_own og_20) mu (by omega) (by omega)).mono ?_
  rintro e w21 ⟨rfl, hb21⟩
  have H21 := Bl.then H20 hb21
  have s21 : w20.heap.size ≤ w21.heap.size := hb21.size
  have og_21 := own_below og_20 hb21
  go_wp2_with fail
  go_ret
  exact ⟨rfl, Bl.then (by go_grown) H21⟩

/-! ### The row: the argument opened, the walk, and everything read again behind it. -/
set_option maxRecDepth 100000 in
theorem lifted (os : Os) (started : os.Started) (H : Type) (enc : TypeId × Value → H) :
    ReturnsInHanded {} Try.checked os 5 .any (Rows.fnExactCheapestBuildSpec.pre6 enc Try.prog Try.f5 Rows.fnExactCheapestBuildRow.domain false) (Rows.fnExactCheapestBuildSpec.post enc Try.prog Try.f5 false true false false) := by
  refine returnsInHanded_of_change (C := Try.checked) own started (by kernel_rfl) Try.func5
    (ChangeSpec.witness6 (enc := enc) (C := Try.checked) false ⟨#[], #[.slice none 0 0, .slice none 0 0, .int .i64 0], []⟩ 8 (by kernel_rfl) (by kernel_rfl) (by kernel_rfl) (by kernel_rfl)) ?_
  intro W base args ds gs before hval0 hW hcnd _
  have hval : ∀ (j : Nat) t v, Try.f5.params[j]? = some t → args[j]? = some v → Value.okWide Try.prog W .any base t v := hval0
  have hW' := hW
  obtain ⟨p, q, hA0, hV, rfl, hfz, hnd⟩ := hW
  have hA : DataW.TrodAll enc Try.prog W 0 (fun _ => true) true Try.f5.params.toList args.toList ds p := hA0
  rw [Try.params5] at hA hval
  obtain ⟨v0, vs0, d0, ds0, p0, q0, hargs, rfl, rfl, h0, r0⟩ := trodAll_cons hA
  obtain ⟨v1, vs1, d1, ds1, p1, q1, rfl, rfl, rfl, h1, r1⟩ := trodAll_cons r0
  obtain ⟨v2, vs2, d2, ds2, p2, q2, rfl, rfl, rfl, h2, r2⟩ := trodAll_cons r1
  obtain ⟨rfl, rfl, rfl⟩ := trodAll_nil r2
  obtain rfl : args = #[v0, v1, v2] := by cases args; simp_all
  obtain ⟨rfl, rfl⟩ := trodVars_none hV
  have k0 := h0
  have lt0 : ∀ x ∈ p0, x.block < W.heap.size := by obtain ⟨m, hm⟩ := k0; exact DataW.trod_lt m _ _ _ hm
  have k1 := h1
  have lt1 : ∀ x ∈ p1, x.block < W.heap.size := by obtain ⟨m, hm⟩ := k1; exact DataW.trod_lt m _ _ _ hm
  have k2 := h2
  have lt2 : ∀ x ∈ p2, x.block < W.heap.size := by obtain ⟨m, hm⟩ := k2; exact DataW.trod_lt m _ _ _ hm
  obtain ⟨A0, n0, m0, rfl⟩ := okWide_slice Try.underlying22 (hval 0 22 v0 rfl rfl)
  obtain ⟨z0, hr0, hn0, -⟩ := open_Ints h0
  obtain ⟨A1, n1, m1, rfl⟩ := okWide_slice Try.underlying22 (hval 1 22 v1 rfl rfl)
  obtain ⟨z1, hr1, hn1, -⟩ := open_Ints h1
  obtain ⟨x2, rfl, rfl, rfl, wf2⟩ := open_int Try.underlying2 (hval 2 2 v2 rfl rfl) h2
  clear hA0 hval0
  refine (walk A0 n0 m0 z0 A1 n1 m1 z1 x2 W hr0 hn0 hr1 hn1).mono fun e W' ⟨he, bel⟩ => ?_
  subst he
  exact ⟨_, rfl, _, _, _, [], _, [], hW', trodAll_mk1 (shut_bool Try.underlying4 _), (trodAll_cons_mk (Below.trod laidOut (by kernel_rfl) (of_decide_eq_true (by kernel_rfl)) k0 bel lt0) (trodAll_cons_mk (Below.trod laidOut (by kernel_rfl) (of_decide_eq_true (by kernel_rfl)) k1 bel lt1) (trodAll_cons_mk (Below.trod laidOut (by kernel_rfl) (of_decide_eq_true (by kernel_rfl)) k2 bel lt2) trodAll_mk0))), rfl, bel.frame _, fun h => by cases h⟩

theorem over : Rows.fnExactCheapestBuildRow.holds Try.pinned (OpenSpec.ofChange Rows.fnExactCheapestBuildSpec) :=
  OpenClaim.holds_of_wide 5 Try.f5 rfl rfl rfl rfl rfl rfl rfl ⟨rfl, rfl, rfl, rfl, rfl⟩ rfl rfl rfl rfl rfl (by kernel_rfl) Try.func5 (by kernel_rfl)
    (of_decide_eq_true (by kernel_rfl)) (by unfold Func.isWrapper; first | (rw [if_pos (by decide +kernel)]; kernel_rfl) | (rw [if_neg (by decide +kernel)]; exact ⟨rfl, rfl⟩))
    (fun os started H enc _ => lifted os started H enc)

theorem proved : Rows.FnExactCheapestBuildSaid := over
end Go.Proofs.Ytgaahmcbfognhaa.lawCheapestBuild
