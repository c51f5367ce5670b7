/-
  The law FnExactFewestLayers: the program's FewestLayers returns what the reference's returns; for all arguments, no condition.
-/
import Derived.Test.YtgaahmcbfognhaaOpen
import Derived.Test.YtgaahmcbfognhaaBldV
import Derived.ProofKit
import Derived.OpenShut
import Derived.ShutString
import Derived.ChangeOld
import Derived.Deep.RegionHeld3
namespace Go.Proofs.Ytgaahmcbfognhaa.lawFewestLayers
open Go.ChangeShapes Go.WideShapes Go.ChangeAt Go.RowKit
set_option linter.unusedVariables false

set_option maxHeartbeats 800000 in
theorem walk (A0 : Option Addr) (n0 m0 : Nat) (z0 : List Int) (x1 : Int) (w : World) (hr0 : Rd w 1 A0 n0 (ints z0)) (hn0 : n0 ≤ 9223372036854775807) :
    Calls Try.prog 6 #[.slice A0 n0 m0, .int .i64 x1] w fun e w' => e = .returned (.bool true) ∧ Below w.heap.size w w' := by
  by_cases hbig0 : 1048576 < n0
  · go_enter Try.func6, Try.ntmps6
    go_wp2_with fail
    go_ret
    refine ⟨rfl, ?_⟩
    go_grown
  have hs0 : n0 ≤ 1048576 := by omega
  have hlen : (fewR z0 x1).1.length ≤ 1048577 := (fewR_len z0 x1)
  go_enter Try.func6, Try.ntmps6
  have H0 : Below w.heap.size w w := Below.refl _ _
  go_wp2_with fail
  refine (toInt64S_any _ _ _ _ _ (hr0.below H0) hs0).mono ?_
  rintro e w1 ⟨As0, cs0, rfl, os0_1, hb1⟩
  have H1 := Bl.then H0 hb1
  have Ls0 := Lib.hid os0_1.lt
  go_wp2_with fail
  refine (sFewestLayers_any _ _ _ _ _ _ (Rd.of_own os0_1) hs0).mono ?_
  rintro e w2 ⟨Aw, cw, rfl, ow_2, hb2⟩
  have H2 := Bl.then H1 hb2
  have s2 : w1.heap.size ≤ w2.heap.size := hb2.size
  have os0_2 := own_below os0_1 hb2
  have Lw := Lib.hid ow_2.lt
  go_wp2_with fail
  refine (toInt64S_any _ _ _ _ _ (hr0.below H2) hs0).mono ?_
  rintro e w3 ⟨Ax0, cx0, rfl, ox0_3, hb3⟩
  have H3 := Bl.then H2 hb3
  have s3 : w2.heap.size ≤ w3.heap.size := hb3.size
  have ow_3 := own_below ow_2 hb3
  have Lx0 := Lib.hid ox0_3.lt
  go_wp2_with fail
  refine (FewestLayers_any _ _ _ _ _ _ (Rd.of_own ox0_3) hs0).mono ?_
  rintro e w4 ⟨Ag, cg, rfl, og_4, hb4⟩
  have H4 := Bl.then H3 hb4
  have s4 : w3.heap.size ≤ w4.heap.size := hb4.size
  have ow_4 := own_below ow_3 hb4
  have ox0_4 := own_below ox0_3 hb4
  have Lg := Lib.hid og_4.lt
  go_wp2_with fail
  refine (eqInt64S_same _ _ _ _ _ _ _ (Rd.of_own og_4) (Rd.of_own ow_4) (by omega)).mono ?_
  rintro e w5 ⟨rfl, hb5⟩
  have H5 := Bl.then H4 hb5
  have s5 : w4.heap.size ≤ w5.heap.size := hb5.size
  have ow_5 := own_below ow_4 hb5
  have ox0_5 := own_below ox0_4 hb5
  have og_5 := own_below og_4 hb5
  go_wp2_with fail
  refine (toInt64S_any _ _ _ _ _ (hr0.below H5) hs0).mono ?_
  rintro e w6 ⟨Ay0, cy0, rfl, oy0_6, hb6⟩
  have H6 := Bl.then H5 hb6
  have s6 : w5.heap.size ≤ w6.heap.size := hb6.size
  have ow_6 := own_below ow_5 hb6
  have ox0_6 := own_below ox0_5 hb6
  have og_6 := own_below og_5 hb6
  have Ly0 := Lib.hid oy0_6.lt
  go_wp2_with fail
  refine (eqInt64S_same _ _ _ _ _ _ _ (Rd.of_own ox0_6) (Rd.of_own oy0_6) (by omega)).mono ?_
  rintro e w7 ⟨rfl, hb7⟩
  have H7 := Bl.then H6 hb7
  have s7 : w6.heap.size ≤ w7.heap.size := hb7.size
  have ow_7 := own_below ow_6 hb7
  have ox0_7 := own_below ox0_6 hb7
  have og_7 := own_below og_6 hb7
  have oy0_7 := own_below oy0_6 hb7
  go_wp2_with fail
  refine (markInt64S_any _ _ _ _ _ _ _ ox0_7 (by omega) (by omega)).mono ?_
  rintro e w8 ⟨rfl, p0, mp0, ox0_8, hg8⟩
  have H8 := mark_below H7 ox0_7 (H2.size) hg8
  have s8 : w7.heap.size ≤ w8.heap.size := hg8.size
  have ow_8 := keep_own ow_7 hg8 (dis_of Lw Lx0 (by omega))
  have og_8 := keep_own og_7 hg8 (dis_of Lg Lx0 (by omega))
  go_wp2_with fail
  refine (eqInt64S_same _ _ _ _ _ _ _ (Rd.of_own og_8) (Rd.of_own ow_8) (by omega)).mono ?_
  rintro e w9 ⟨rfl, hb9⟩
  have H9 := Bl.then H8 hb9
  have s9 : w8.heap.size ≤ w9.heap.size := hb9.size
  have ow_9 := own_below ow_8 hb9
  have og_9 := own_below og_8 hb9
  go_wp2_with fail
  refine (markInt64S_any _ _ _ _ _ _ _ og_9 (by omega) (by omega)).mono ?_
  rintro e w10 ⟨rfl, u, mu, og_10, hg10⟩
  have H10 := mark_below H9 og_9 (H3.size) hg10
  have s10 : w9.heap.size ≤ w10.heap.size := hg10.size
  have ow_10 := keep_own ow_9 hg10 (dis_of Lw Lg (by omega))
  go_wp2_with fail
  refine (heldInt64S_any _ _ _ _ _ _ (Rd.of_own og_10) mu (by omega) (by omega)).mono ?_
  rintro e w11 ⟨rfl, hb11⟩
  have H11 := Bl.then H10 hb11
  have s11 : w10.heap.size ≤ w11.heap.size := hb11.size
  have ow_11 := own_below ow_10 hb11
  have og_11 := own_below og_10 hb11
  go_wp2_with fail
  refine (toInt64S_any _ _ _ _ _ (hr0.below H11) hs0).mono ?_
  rintro e w12 ⟨Ah0, ch0, rfl, oh0_12, hb12⟩
  have H12 := Bl.then H11 hb12
  have s12 : w11.heap.size ≤ w12.heap.size := hb12.size
  have ow_12 := own_below ow_11 hb12
  have og_12 := own_below og_11 hb12
  have Lh0 := Lib.hid oh0_12.lt
  go_wp2_with fail
  refine (FewestLayers_any _ _ _ _ _ _ (Rd.of_own oh0_12) hs0).mono ?_
  rintro e w13 ⟨Ak, ck, rfl, ok_13, hb13⟩
  have H13 := Bl.then H12 hb13
  have s13 : w12.heap.size ≤ w13.heap.size := hb13.size
  have ow_13 := own_below ow_12 hb13
  have og_13 := own_below og_12 hb13
  have oh0_13 := own_below oh0_12 hb13
  have Lk := Lib.hid ok_13.lt
  go_wp2_with fail
  refine (eqInt64S_same _ _ _ _ _ _ _ (Rd.of_own ok_13) (Rd.of_own ow_13) (by omega)).mono ?_
  rintro e w14 ⟨rfl, hb14⟩
  have H14 := Bl.then H13 hb14
  have s14 : w13.heap.size ≤ w14.heap.size := hb14.size
  have ow_14 := own_below ow_13 hb14
  have og_14 := own_below og_13 hb14
  have ok_14 := own_below ok_13 hb14
  go_wp2_with fail
  refine (heldInt64S_any _ _ _ _ _ _ (Rd.of_own og_14) mu (by omega) (by omega)).mono ?_
  rintro e w15 ⟨rfl, hb15⟩
  have H15 := Bl.then H14 hb15
  have s15 : w14.heap.size ≤ w15.heap.size := hb15.size
  have og_15 := own_below og_14 hb15
  go_wp2_with fail
  go_ret
  exact ⟨rfl, Bl.then (by go_grown) H15⟩

/-! ### The row: the argument opened, the walk, and everything read again behind it. -/
set_option maxRecDepth 100000 in
theorem lifted (os : Os) (started : os.Started) (H : Type) (enc : TypeId × Value → H) :
    ReturnsInHanded {} Try.checked os 6 .any (Rows.fnExactFewestLayersSpec.pre6 enc Try.prog Try.f6 Rows.fnExactFewestLayersRow.domain false) (Rows.fnExactFewestLayersSpec.post enc Try.prog Try.f6 false true false false) := by
  refine returnsInHanded_of_change (C := Try.checked) own started (by kernel_rfl) Try.func6
    (ChangeSpec.witness6 (enc := enc) (C := Try.checked) false ⟨#[], #[.slice none 0 0, .int .i64 0], []⟩ 8 (by kernel_rfl) (by kernel_rfl) (by kernel_rfl) (by kernel_rfl)) ?_
  intro W base args ds gs before hval0 hW hcnd _
  have hval : ∀ (j : Nat) t v, Try.f6.params[j]? = some t → args[j]? = some v → Value.okWide Try.prog W .any base t v := hval0
  have hW' := hW
  obtain ⟨p, q, hA0, hV, rfl, hfz, hnd⟩ := hW
  have hA : DataW.TrodAll enc Try.prog W 0 (fun _ => true) true Try.f6.params.toList args.toList ds p := hA0
  rw [Try.params6] at hA hval
  obtain ⟨v0, vs0, d0, ds0, p0, q0, hargs, rfl, rfl, h0, r0⟩ := trodAll_cons hA
  obtain ⟨v1, vs1, d1, ds1, p1, q1, rfl, rfl, rfl, h1, r1⟩ := trodAll_cons r0
  obtain ⟨rfl, rfl, rfl⟩ := trodAll_nil r1
  obtain rfl : args = #[v0, v1] := by cases args; simp_all
  obtain ⟨rfl, rfl⟩ := trodVars_none hV
  have k0 := h0
  have lt0 : ∀ x ∈ p0, x.block < W.heap.size := by obtain ⟨m, hm⟩ := k0; exact DataW.trod_lt m _ _ _ hm
  have k1 := h1
  have lt1 : ∀ x ∈ p1, x.block < W.heap.size := by obtain ⟨m, hm⟩ := k1; exact DataW.trod_lt m _ _ _ hm
  obtain ⟨A0, n0, m0, rfl⟩ := okWide_slice Try.underlying22 (hval 0 22 v0 rfl rfl)
  obtain ⟨z0, hr0, hn0, -⟩ := open_Ints h0
  obtain ⟨x1, rfl, rfl, rfl, wf1⟩ := open_int Try.underlying2 (hval 1 2 v1 rfl rfl) h1
  clear hA0 hval0
  refine (walk A0 n0 m0 z0 x1 W hr0 hn0).mono fun e W' ⟨he, bel⟩ => ?_
  subst he
  exact ⟨_, rfl, _, _, _, [], _, [], hW', trodAll_mk1 (shut_bool Try.underlying4 _), (trodAll_cons_mk (Below.trod laidOut (by kernel_rfl) (of_decide_eq_true (by kernel_rfl)) k0 bel lt0) (trodAll_cons_mk (Below.trod laidOut (by kernel_rfl) (of_decide_eq_true (by kernel_rfl)) k1 bel lt1) trodAll_mk0)), rfl, bel.frame _, fun h => by cases h⟩

theorem over : Rows.fnExactFewestLayersRow.holds Try.pinned (OpenSpec.ofChange Rows.fnExactFewestLayersSpec) :=
  OpenClaim.holds_of_wide 6 Try.f6 rfl rfl rfl rfl rfl rfl rfl ⟨rfl, rfl, rfl, rfl, rfl⟩ rfl rfl rfl rfl rfl (by kernel_rfl) Try.func6 (by kernel_rfl)
    (of_decide_eq_true (by kernel_rfl)) (by unfold Func.isWrapper; first | (rw [if_pos (by decide +kernel)]; kernel_rfl) | (rw [if_neg (by decide +kernel)]; exact ⟨rfl, rfl⟩))
    (fun os started H enc _ => lifted os started H enc)

theorem proved : Rows.FnExactFewestLayersSaid := over
end Go.Proofs.Ytgaahmcbfognhaa.lawFewestLayers
