/-
  The law FnExactGradeSeam: the program's GradeSeam returns what the reference's returns; for all arguments, no condition.
-/
import Derived.Test.YtpmdgbdeibeoaaaOpen
import Derived.Test.YtpmdgbdeibeoaaaSeam
import Derived.ProofKit
import Derived.OpenShut
import Derived.ShutString
import Derived.ChangeOld
import Derived.Deep.RegionHeld3
namespace Go.Proofs.Ytpmdgbdeibeoaaa.lawGradeSeam
open Go.ChangeShapes Go.WideShapes Go.ChangeAt Go.RowKit
set_option linter.unusedVariables false

set_option maxRecDepth 100000 in
set_option maxHeartbeats 1600000 in
theorem walk (A0 : Option Addr) (n0 m0 : Nat) (z0 : List Int) (A1 : Option Addr) (n1 m1 : Nat) (z1 : List Int) (x2 : Int) (w : World) (hr0 : Rd w 1 A0 n0 (ints z0)) (hn0 : n0 ≤ 9223372036854775807) (hr1 : Rd w 1 A1 n1 (ints z1)) (hn1 : n1 ≤ 9223372036854775807) :
    Calls Try.prog 10 #[.slice A0 n0 m0, .slice A1 n1 m1, .int .i64 x2] w fun e w' => e = .returned (.bool true) ∧ Below w.heap.size w w' := by
  by_cases hbig0 : 1048576 < n0
  · go_enter Try.func10, Try.ntmps10
    go_wp2_with fail
    go_ret
    refine ⟨rfl, ?_⟩
    go_grown
  have hs0 : n0 ≤ 1048576 := by omega
  by_cases hbig1 : 1048576 < n1
  · go_enter Try.func10, Try.ntmps10
    go_wp2_with fail
    go_ret
    refine ⟨rfl, ?_⟩
    go_grown
  have hs1 : n1 ≤ 1048576 := by omega
  have hlen : (seamR z0 z1 x2).1.length ≤ 1048577 := (seamR_len z0 z1 x2).1
  have hlen2 : (seamR z0 z1 x2).2.1.length ≤ 1048577 := (seamR_len z0 z1 x2).2
  go_enter Try.func10, Try.ntmps10
  have H0 : Below w.heap.size w w := Below.refl _ _
  go_wp2_with fail
  refine (toInt64S_any _ _ _ _ _ (hr0.below H0) hs0).mono ?_
  rintro e w1 ⟨As0, cs0, rfl, os0_1, hb1⟩
  have H1 := Bl.then H0 hb1
  have Ls0 := Lib.hid os0_1.lt
  go_wp2_with fail
  refine (toInt64S_any _ _ _ _ _ (hr1.below H1) hs1).mono ?_
  rintro e w2 ⟨As1, cs1, rfl, os1_2, hb2⟩
  have H2 := Bl.then H1 hb2
  have s2 : w1.heap.size ≤ w2.heap.size := hb2.size
  have os0_2 := own_below os0_1 hb2
  have Ls1 := Lib.hid os1_2.lt
  go_wp2_with fail
  refine (sGradeSeam_any _ _ _ _ _ _ _ _ _ _ (Rd.of_own os0_2) (Rd.of_own os1_2) (by omega) (by omega)).mono ?_
  rintro e w3 ⟨Aw, cw, Av, cv, mw, rfl, ow_3, ov_3, Lw, Lv, maw, mbw, hb3⟩
  have H3 := Bl.then H2 hb3
  have s3 : w2.heap.size ≤ w3.heap.size := hb3.size
  have os0_3 := own_below os0_2 hb3
  have os1_3 := own_below os1_2 hb3
  go_wp2_with fail
  refine (toInt64S_any _ _ _ _ _ (hr0.below H3) hs0).mono ?_
  rintro e w4 ⟨Ax0, cx0, rfl, ox0_4, hb4⟩
  have H4 := Bl.then H3 hb4
  have s4 : w3.heap.size ≤ w4.heap.size := hb4.size
  have ow_4 := own_below ow_3 hb4
  have ov_4 := own_below ov_3 hb4
  have Lx0 := Lib.hid ox0_4.lt
  go_wp2_with fail
  refine (toInt64S_any _ _ _ _ _ (hr1.below H4) hs1).mono ?_
  rintro e w5 ⟨Ax1, cx1, rfl, ox1_5, hb5⟩
  have H5 := Bl.then H4 hb5
  have s5 : w4.heap.size ≤ w5.heap.size := hb5.size
  have ow_5 := own_below ow_4 hb5
  have ov_5 := own_below ov_4 hb5
  have ox0_5 := own_below ox0_4 hb5
  have Lx1 := Lib.hid ox1_5.lt
  go_wp2_with fail
  refine (GradeSeam_any _ _ _ _ _ _ _ _ _ _ (Rd.of_own ox0_5) (Rd.of_own ox1_5) (by omega) (by omega)).mono ?_
  rintro e w6 ⟨Ag, cg, Aq, cq, mg, rfl, og_6, oq_6, Lg, Lq, mag, mbg, hb6⟩
  have H6 := Bl.then H5 hb6
  have s6 : w5.heap.size ≤ w6.heap.size := hb6.size
  have ow_6 := own_below ow_5 hb6
  have ov_6 := own_below ov_5 hb6
  have ox0_6 := own_below ox0_5 hb6
  have ox1_6 := own_below ox1_5 hb6
  go_wp2_with fail
  refine (eqInt64S_same _ _ _ _ _ _ _ (Rd.of_own og_6) (Rd.of_own ow_6) (by omega)).mono ?_
  rintro e w7 ⟨rfl, hb7⟩
  have H7 := Bl.then H6 hb7
  have s7 : w6.heap.size ≤ w7.heap.size := hb7.size
  have ow_7 := own_below ow_6 hb7
  have ov_7 := own_below ov_6 hb7
  have ox0_7 := own_below ox0_6 hb7
  have ox1_7 := own_below ox1_6 hb7
  have og_7 := own_below og_6 hb7
  have oq_7 := own_below oq_6 hb7
  go_wp2_with fail
  refine (eqInt64S_same _ _ _ _ _ _ _ (Rd.of_own oq_7) (Rd.of_own ov_7) (by omega)).mono ?_
  rintro e w8 ⟨rfl, hb8⟩
  have H8 := Bl.then H7 hb8
  have s8 : w7.heap.size ≤ w8.heap.size := hb8.size
  have ow_8 := own_below ow_7 hb8
  have ov_8 := own_below ov_7 hb8
  have ox0_8 := own_below ox0_7 hb8
  have ox1_8 := own_below ox1_7 hb8
  have og_8 := own_below og_7 hb8
  have oq_8 := own_below oq_7 hb8
  go_wp2_with fail
  refine (toInt64S_any _ _ _ _ _ (hr0.below H8) hs0).mono ?_
  rintro e w9 ⟨Ay0, cy0, rfl, oy0_9, hb9⟩
  have H9 := Bl.then H8 hb9
  have s9 : w8.heap.size ≤ w9.heap.size := hb9.size
  have ow_9 := own_below ow_8 hb9
  have ov_9 := own_below ov_8 hb9
  have ox0_9 := own_below ox0_8 hb9
  have ox1_9 := own_below ox1_8 hb9
  have og_9 := own_below og_8 hb9
  have oq_9 := own_below oq_8 hb9
  have Ly0 := Lib.hid oy0_9.lt
  go_wp2_with fail
  refine (eqInt64S_same _ _ _ _ _ _ _ (Rd.of_own ox0_9) (Rd.of_own oy0_9) (by omega)).mono ?_
  rintro e w10 ⟨rfl, hb10⟩
  have H10 := Bl.then H9 hb10
  have s10 : w9.heap.size ≤ w10.heap.size := hb10.size
  have ow_10 := own_below ow_9 hb10
  have ov_10 := own_below ov_9 hb10
  have ox0_10 := own_below ox0_9 hb10
  have ox1_10 := own_below ox1_9 hb10
  have og_10 := own_below og_9 hb10
  have oq_10 := own_below oq_9 hb10
  have oy0_10 := own_below oy0_9 hb10
  go_wp2_with fail
  refine (toInt64S_any _ _ _ _ _ (hr1.below H10) hs1).mono ?_
  rintro e w11 ⟨Ay1, cy1, rfl, oy1_11, hb11⟩
  have H11 := Bl.then H10 hb11
  have s11 : w10.heap.size ≤ w11.heap.size := hb11.size
  have ow_11 := own_below ow_10 hb11
  have ov_11 := own_below ov_10 hb11
  have ox0_11 := own_below ox0_10 hb11
  have ox1_11 := own_below ox1_10 hb11
  have og_11 := own_below og_10 hb11
  have oq_11 := own_below oq_10 hb11
  have Ly1 := Lib.hid oy1_11.lt
  go_wp2_with fail
  refine (eqInt64S_same _ _ _ _ _ _ _ (Rd.of_own ox1_11) (Rd.of_own oy1_11) (by omega)).mono ?_
  rintro e w12 ⟨rfl, hb12⟩
  have H12 := Bl.then H11 hb12
  have s12 : w11.heap.size ≤ w12.heap.size := hb12.size
  have ow_12 := own_below ow_11 hb12
  have ov_12 := own_below ov_11 hb12
  have ox0_12 := own_below ox0_11 hb12
  have ox1_12 := own_below ox1_11 hb12
  have og_12 := own_below og_11 hb12
  have oq_12 := own_below oq_11 hb12
  have oy1_12 := own_below oy1_11 hb12
  go_wp2_with fail
  refine (markInt64S_any _ _ _ _ _ _ _ ox0_12 (by omega) (by omega)).mono ?_
  rintro e w13 ⟨rfl, p0, mp0, ox0_13, hg13⟩
  have H13 := mark_below H12 ox0_12 (H3.size) hg13
  have s13 : w12.heap.size ≤ w13.heap.size := hg13.size
  have ow_13 := keep_own ow_12 hg13 (dis_of Lw Lx0 (by omega))
  have ov_13 := keep_own ov_12 hg13 (dis_of Lv Lx0 (by omega))
  have ox1_13 := keep_own ox1_12 hg13 (dis_of Lx1 Lx0 (by omega))
  have og_13 := keep_own og_12 hg13 (dis_of Lg Lx0 (by omega))
  have oq_13 := keep_own oq_12 hg13 (dis_of Lq Lx0 (by omega))
  go_wp2_with fail
  refine (markInt64S_any _ _ _ _ _ _ _ ox1_13 (by omega) (by omega)).mono ?_
  rintro e w14 ⟨rfl, p1, mp1, ox1_14, hg14⟩
  have H14 := mark_below H13 ox1_13 (H4.size) hg14
  have s14 : w13.heap.size ≤ w14.heap.size := hg14.size
  have ow_14 := keep_own ow_13 hg14 (dis_of Lw Lx1 (by omega))
  have ov_14 := keep_own ov_13 hg14 (dis_of Lv Lx1 (by omega))
  have ox0_14 := keep_own ox0_13 hg14 (dis_of Lx0 Lx1 (by omega))
  have og_14 := keep_own og_13 hg14 (dis_of Lg Lx1 (by omega))
  have oq_14 := keep_own oq_13 hg14 (dis_of Lq Lx1 (by omega))
  go_wp2_with fail
  refine (eqInt64S_same _ _ _ _ _ _ _ (Rd.of_own og_14) (Rd.of_own ow_14) (by omega)).mono ?_
  rintro e w15 ⟨rfl, hb15⟩
  have H15 := Bl.then H14 hb15
  have s15 : w14.heap.size ≤ w15.heap.size := hb15.size
  have ow_15 := own_below ow_14 hb15
  have ov_15 := own_below ov_14 hb15
  have og_15 := own_below og_14 hb15
  have oq_15 := own_below oq_14 hb15
  go_wp2_with fail
  refine (eqInt64S_same _ _ _ _ _ _ _ (Rd.of_own oq_15) (Rd.of_own ov_15) (by omega)).mono ?_
  rintro e w16 ⟨rfl, hb16⟩
  have H16 := Bl.then H15 hb16
  have s16 : w15.heap.size ≤ w16.heap.size := hb16.size
  have ow_16 := own_below ow_15 hb16
  have ov_16 := own_below ov_15 hb16
  have og_16 := own_below og_15 hb16
  have oq_16 := own_below oq_15 hb16
  go_wp2_with fail
  refine (markInt64S_any _ _ _ _ _ _ _ og_16 (by omega) (by omega)).mono ?_
  rintro e w17 ⟨rfl, u, mu, og_17, hg17⟩
  have H17 := mark_below H16 og_16 (H5.size) hg17
  have s17 : w16.heap.size ≤ w17.heap.size := hg17.size
  have ow_17 := keep_own ow_16 hg17 (dis_of Lw Lg (by omega))
  have ov_17 := keep_own ov_16 hg17 (dis_of Lv Lg (by omega))
  have oq_17 := keep_own oq_16 hg17 (dis_of Lq Lg (by omega))
  go_wp2_with fail
  refine (markInt64S_any _ _ _ _ _ _ _ oq_17 (by omega) (by omega)).mono ?_
  rintro e w18 ⟨rfl, k, mk, oq_18, hg18⟩
  have H18 := mark_below H17 oq_17 (Nat.le_trans H5.size mag) hg18
  have s18 : w17.heap.size ≤ w18.heap.size := hg18.size
  have ow_18 := keep_own ow_17 hg18 (dis_of Lw Lq (by omega))
  have ov_18 := keep_own ov_17 hg18 (dis_of Lv Lq (by omega))
  have og_18 := keep_own og_17 hg18 (dis_of Lg Lq (by omega))
  go_wp2_with fail
  refine (heldInt64S_any _ _ _ _ _ _ (Rd.of_own og_18) mu (by omega) (by omega)).mono ?_
  rintro e w19 ⟨rfl, hb19⟩
  have H19 := Bl.then H18 hb19
  have s19 : w18.heap.size ≤ w19.heap.size := hb19.size
  have ow_19 := own_below ow_18 hb19
  have ov_19 := own_below ov_18 hb19
  have og_19 := own_below og_18 hb19
  have oq_19 := own_below oq_18 hb19
  go_wp2_with fail
  refine (heldInt64S_any _ _ _ _ _ _ (Rd.of_own oq_19) mk (by omega) (by omega)).mono ?_
  rintro e w20 ⟨rfl, hb20⟩
  have H20 := Bl.then H19 hb20
  have s20 : w19.heap.size ≤ w20.heap.size := hb20.size
  have ow_20 := own_below ow_19 hb20
  have ov_20 := own_below ov_19 hb20
  have og_20 := own_below og_19 hb20
  have oq_20 := own_below oq_19 hb20
  go_wp2_with fail
  refine (toInt64S_any _ _ _ _ _ (hr0.below H20) hs0).mono ?_
  rintro e w21 ⟨Ah0, ch0, rfl, oh0_21, hb21⟩
  have H21 := Bl.then H20 hb21
  have s21 : w20.heap.size ≤ w21.heap.size := hb21.size
  have ow_21 := own_below ow_20 hb21
  have ov_21 := own_below ov_20 hb21
  have og_21 := own_below og_20 hb21
  have oq_21 := own_below oq_20 hb21
  have Lh0 := Lib.hid oh0_21.lt
  go_wp2_with fail
  refine (toInt64S_any _ _ _ _ _ (hr1.below H21) hs1).mono ?_
  rintro e w22 ⟨Ah1, ch1, rfl, oh1_22, hb22⟩
  have H22 := Bl.then H21 hb22
  have s22 : w21.heap.size ≤ w22.heap.size := hb22.size
  have ow_22 := own_below ow_21 hb22
  have ov_22 := own_below ov_21 hb22
  have og_22 := own_below og_21 hb22
  have oq_22 := own_below oq_21 hb22
  have oh0_22 := own_below oh0_21 hb22
  have Lh1 := Lib.hid oh1_22.lt
  go_wp2_with fail
  refine (GradeSeam_any _ _ _ _ _ _ _ _ _ _ (Rd.of_own oh0_22) (Rd.of_own oh1_22) (by omega) (by omega)).mono ?_
  rintro e w23 ⟨Ad, cd, Af, cf, md, rfl, od_23, of_23, Ld, Lf, mad, mbd, hb23⟩
  have H23 := Bl.then H22 hb23
  have s23 : w22.heap.size ≤ w23.heap.size := hb23.size
  have ow_23 := own_below ow_22 hb23
  have ov_23 := own_below ov_22 hb23
  have og_23 := own_below og_22 hb23
  have oq_23 := own_below oq_22 hb23
  have oh0_23 := own_below oh0_22 hb23
  have oh1_23 := own_below oh1_22 hb23
  go_wp2_with fail
  refine (eqInt64S_same _ _ _ _ _ _ _ (Rd.of_own od_23) (Rd.of_own ow_23) (by omega)).mono ?_
  rintro e w24 ⟨rfl, hb24⟩
  have H24 := Bl.then H23 hb24
  have s24 : w23.heap.size ≤ w24.heap.size := hb24.size
  have ow_24 := own_below ow_23 hb24
  have ov_24 := own_below ov_23 hb24
  have og_24 := own_below og_23 hb24
  have oq_24 := own_below oq_23 hb24
  have od_24 := own_below od_23 hb24
  have of_24 := own_below of_23 hb24
  go_wp2_with fail
  refine (eqInt64S_same _ _ _ _ _ _ _ (Rd.of_own of_24) (Rd.of_own ov_24) (by omega)).mono ?_
  rintro e w25 ⟨rfl, hb25⟩
  have H25 := Bl.then H24 hb25
  have s25 : w24.heap.size ≤ w25.heap.size := hb25.size
  have ow_25 := own_below ow_24 hb25
  have ov_25 := own_below ov_24 hb25
  have og_25 := own_below og_24 hb25
  have oq_25 := own_below oq_24 hb25
  have od_25 := own_below od_24 hb25
  have of_25 := own_below of_24 hb25
  go_wp2_with fail
  refine (heldInt64S_any _ _ _ _ _ _ (Rd.of_own og_25) mu (by omega) (by omega)).mono ?_
  rintro e w26 ⟨rfl, hb26⟩
  have H26 := Bl.then H25 hb26
  have s26 : w25.heap.size ≤ w26.heap.size := hb26.size
  have og_26 := own_below og_25 hb26
  have oq_26 := own_below oq_25 hb26
  go_wp2_with fail
  refine (heldInt64S_any _ _ _ _ _ _ (Rd.of_own oq_26) mk (by omega) (by omega)).mono ?_
  rintro e w27 ⟨rfl, hb27⟩
  have H27 := Bl.then H26 hb27
  have s27 : w26.heap.size ≤ w27.heap.size := hb27.size
  have og_27 := own_below og_26 hb27
  have oq_27 := own_below oq_26 hb27
  go_wp2_with fail
  go_ret
  exact ⟨rfl, Bl.then (by go_grown) H27⟩

/-! ### The row: the argument opened, the walk, and everything read again behind it. -/
set_option maxRecDepth 100000 in
theorem lifted (os : Os) (started : os.Started) (H : Type) (enc : TypeId × Value → H) :
    ReturnsInHanded {} Try.checked os 10 .any (Rows.fnExactGradeSeamSpec.pre6 enc Try.prog Try.f10 Rows.fnExactGradeSeamRow.domain false) (Rows.fnExactGradeSeamSpec.post enc Try.prog Try.f10 false true false false) := by
  refine returnsInHanded_of_change (C := Try.checked) own started (by kernel_rfl) Try.func10
    (ChangeSpec.witness6 (enc := enc) (C := Try.checked) false ⟨#[], #[.slice none 0 0, .slice none 0 0, .int .i64 0], []⟩ 8 (by kernel_rfl) (by kernel_rfl) (by kernel_rfl) (by kernel_rfl)) ?_
  intro W base args ds gs before hval0 hW hcnd _
  have hval : ∀ (j : Nat) t v, Try.f10.params[j]? = some t → args[j]? = some v → Value.okWide Try.prog W .any base t v := hval0
  have hW' := hW
  obtain ⟨p, q, hA0, hV, rfl, hfz, hnd⟩ := hW
  have hA : DataW.TrodAll enc Try.prog W 0 (fun _ => true) true Try.f10.params.toList args.toList ds p := hA0
  rw [Try.params10] at hA hval
  obtain ⟨v0, vs0, d0, ds0, p0, q0, hargs, rfl, rfl, h0, r0⟩ := trodAll_cons hA
  obtain ⟨v1, vs1, d1, ds1, p1, q1, rfl, rfl, rfl, h1, r1⟩ := trodAll_cons r0
  obtain ⟨v2, vs2, d2, ds2, p2, q2, rfl, rfl, rfl, h2, r2⟩ := trodAll_cons r1
  obtain ⟨rfl, rfl, rfl⟩ := trodAll_nil r2
  obtain rfl : args = #[v0, v1, v2] := by cases args; simp_all
  obtain ⟨rfl, rfl⟩ := trodVars_none hV
  have k0 := h0
  have lt0 : ∀ x ∈ p0, x.block < W.heap.size := by obtain ⟨m, hm⟩ := k0; exact DataW.trod_lt m _ _ _ hm
  have k1 := h1
  have lt1 : ∀ x ∈ p1, x.block < W.heap.size := by obtain ⟨m, hm⟩ := k1; exact DataW.trod_lt m _ _ _ hm
  have k2 := h2
  have lt2 : ∀ x ∈ p2, x.block < W.heap.size := by obtain ⟨m, hm⟩ := k2; exact DataW.trod_lt m _ _ _ hm
  obtain ⟨A0, n0, m0, rfl⟩ := okWide_slice Try.underlying37 (hval 0 37 v0 rfl rfl)
  obtain ⟨z0, hr0, hn0, -⟩ := open_Ints h0
  obtain ⟨A1, n1, m1, rfl⟩ := okWide_slice Try.underlying37 (hval 1 37 v1 rfl rfl)
  obtain ⟨z1, hr1, hn1, -⟩ := open_Ints h1
  obtain ⟨x2, rfl, rfl, rfl, wf2⟩ := open_int Try.underlying2 (hval 2 2 v2 rfl rfl) h2
  clear hA0 hval0
  refine (walk A0 n0 m0 z0 A1 n1 m1 z1 x2 W hr0 hn0 hr1 hn1).mono fun e W' ⟨he, bel⟩ => ?_
  subst he
  exact ⟨_, rfl, _, _, _, [], _, [], hW', trodAll_mk1 (shut_bool Try.underlying4 _), (trodAll_cons_mk (Below.trod laidOut (by kernel_rfl) (of_decide_eq_true (by kernel_rfl)) k0 bel lt0) (trodAll_cons_mk (Below.trod laidOut (by kernel_rfl) (of_decide_eq_true (by kernel_rfl)) k1 bel lt1) (trodAll_cons_mk (Below.trod laidOut (by kernel_rfl) (of_decide_eq_true (by kernel_rfl)) k2 bel lt2) trodAll_mk0))), rfl, bel.frame _, fun h => by cases h⟩

theorem over : Rows.fnExactGradeSeamRow.holds Try.pinned (OpenSpec.ofChange Rows.fnExactGradeSeamSpec) :=
  OpenClaim.holds_of_wide 10 Try.f10 rfl rfl rfl rfl rfl rfl rfl ⟨rfl, rfl, rfl, rfl, rfl⟩ rfl rfl rfl rfl rfl (by kernel_rfl) Try.func10 (by kernel_rfl)
    (of_decide_eq_true (by kernel_rfl)) (by unfold Func.isWrapper; first | (rw [if_pos (by decide +kernel)]; kernel_rfl) | (rw [if_neg (by decide +kernel)]; exact ⟨rfl, rfl⟩))
    (fun os started H enc _ => lifted os started H enc)

theorem proved : Rows.FnExactGradeSeamSaid := over
end Go.Proofs.Ytpmdgbdeibeoaaa.lawGradeSeam
