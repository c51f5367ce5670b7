/-
  The law FnExactLostSizes: the program's LostSizes returns what the reference's returns; for all arguments, no condition.
-/
import Derived.Test.YtpmdgbdeibeoaaaOpen
import Derived.Test.YtpmdgbdeibeoaaaTo
import Derived.Test.YtpmdgbdeibeoaaaInts
import Derived.Test.YtpmdgbdeibeoaaaBlk
import Derived.Test.YtpmdgbdeibeoaaaLost
import Derived.ProofKit
import Derived.OpenShut
import Derived.ShutString
import Derived.ChangeOld
import Derived.Deep.RegionHeld3
namespace Go.Proofs.Ytpmdgbdeibeoaaa.lawLostSizes
open Go.ChangeShapes Go.WideShapes Go.ChangeAt Go.RowKit
set_option linter.unusedVariables false

set_option maxHeartbeats 800000 in
theorem walk (s0 : ByteArray) (a0 b0 c0 : Int) (s1 : ByteArray) (a1 b1 c1 : Int) (x2 : Int) (x3 : Int) (w : World) (hs0 : s0.size ≤ maxLen) (hs1 : s1.size ≤ maxLen) :
    Calls Try.prog 7 #[.agg #[.string s0, .int .i64 a0, .int .i64 b0, .int .i64 c0], .agg #[.string s1, .int .i64 a1, .int .i64 b1, .int .i64 c1], .int .i64 x2, .int .i64 x3] w fun e w' => e = .returned (.bool true) ∧ Below w.heap.size w w' := by
  have hs9 := size_maxLen hs0
  have hs8 := size_maxLen hs1
  by_cases hbig : 1048576 < s0.size
  · go_enter Try.func7, Try.ntmps7
    go_wp2_with fail
    refine (szScale_big _ _ _ _ _ _ (by omega) (by omega) (by omega) hs9).mono ?_
    rintro e w1 ⟨rfl, H1⟩
    obtain ⟨hc, hf⟩ := bcell H1
    clear hc hf
    go_wp2_with fail
    go_ret
    exact ⟨rfl, Bl.then (by go_grown) H1⟩
  by_cases hbig2 : 1048576 < s0.size + s1.size
  · go_enter Try.func7, Try.ntmps7
    go_wp2_with fail
    refine (szScale_ok _ _ _ _ _ _ (by omega) (by omega)).mono ?_
    rintro e w1 ⟨rfl, H1⟩
    obtain ⟨hc, hf⟩ := bcell H1
    go_wp2_with fail
    refine (szScale_big _ _ _ _ _ _ (by omega) (by omega) (by omega) hs8).mono ?_
    rintro e w2 ⟨rfl, hb2⟩
    have H2 := Bl.then H1 hb2
    clear hc hf
    obtain ⟨hc, hf⟩ := bcell H2
    clear hc hf
    go_wp2_with fail
    go_ret
    exact ⟨rfl, Bl.then (by go_grown) H2⟩
  have hlen : (lostSizes s0 a0 b0 c0 s1 a1 b1 c1 x2 x3).1.length ≤ 1048577 := lost_len _ _ _ _ _ _ _ _ _ _
  go_enter Try.func7, Try.ntmps7
  have H0 : Below ((w.alloc (.cells #[.string s0, .int .i64 a0, .int .i64 b0, .int .i64 c0] 23)).alloc (.cells #[.string s1, .int .i64 a1, .int .i64 b1, .int .i64 c1] 23)).heap.size ((w.alloc (.cells #[.string s0, .int .i64 a0, .int .i64 b0, .int .i64 c0] 23)).alloc (.cells #[.string s1, .int .i64 a1, .int .i64 b1, .int .i64 c1] 23)) ((w.alloc (.cells #[.string s0, .int .i64 a0, .int .i64 b0, .int .i64 c0] 23)).alloc (.cells #[.string s1, .int .i64 a1, .int .i64 b1, .int .i64 c1] 23)) := Below.refl _ _
  go_wp2_with fail
  refine (szScale_ok _ _ _ _ _ _ (by omega) (by omega)).mono ?_
  rintro e w1 ⟨rfl, hb1⟩
  have H1 := Bl.then H0 hb1
  obtain ⟨hc, hf⟩ := bcell H1
  go_wp2_with fail
  refine (szScale_ok _ _ _ _ _ _ (by omega) (by omega)).mono ?_
  rintro e w2 ⟨rfl, hb2⟩
  have H2 := Bl.then H1 hb2
  have s2 : w1.heap.size ≤ w2.heap.size := hb2.size
  clear hc hf
  obtain ⟨hc, hf⟩ := bcell H2
  clear hc hf
  have P0 := ((Blk.new w 23 #[.string s0, .int .i64 a0, .int .i64 b0, .int .i64 c0]).alloc _).below H2
  have q0_0 : w2.cell? ⟨w.heap.size, 0, none⟩ = some (.string s0) := P0.cell 0
  have q0_1 : w2.cell? ⟨w.heap.size, 1, none⟩ = some (.int .i64 a0) := P0.cell 1
  have q0_2 : w2.cell? ⟨w.heap.size, 2, none⟩ = some (.int .i64 b0) := P0.cell 2
  have q0_3 : w2.cell? ⟨w.heap.size, 3, none⟩ = some (.int .i64 c0) := P0.cell 3
  have P1 := (Blk.new1 w _ 23 #[.string s1, .int .i64 a1, .int .i64 b1, .int .i64 c1]).below H2
  have q1_0 : w2.cell? ⟨w.heap.size + 1, 0, none⟩ = some (.string s1) := P1.cell 0
  have q1_1 : w2.cell? ⟨w.heap.size + 1, 1, none⟩ = some (.int .i64 a1) := P1.cell 1
  have q1_2 : w2.cell? ⟨w.heap.size + 1, 2, none⟩ = some (.int .i64 b1) := P1.cell 2
  have q1_3 : w2.cell? ⟨w.heap.size + 1, 3, none⟩ = some (.int .i64 c1) := P1.cell 3
  go_wp2_with fail
  go_region_held3 (fun wz => Below w2.heap.size w2 wz ∧ wz.cell? ⟨w.heap.size, 0, none⟩ = some (.string s0) ∧ wz.cell? ⟨w.heap.size, 1, none⟩ = some (.int .i64 a0) ∧ wz.cell? ⟨w.heap.size, 2, none⟩ = some (.int .i64 b0) ∧ wz.cell? ⟨w.heap.size, 3, none⟩ = some (.int .i64 c0) ∧ wz.cell? ⟨w.heap.size + 1, 0, none⟩ = some (.string s1) ∧ wz.cell? ⟨w.heap.size + 1, 1, none⟩ = some (.int .i64 a1) ∧ wz.cell? ⟨w.heap.size + 1, 2, none⟩ = some (.int .i64 b1) ∧ wz.cell? ⟨w.heap.size + 1, 3, none⟩ = some (.int .i64 c1)) ((repeat' apply And.intro) <;> first | assumption | exact Below.drew (Below.refl _ _) | exact keep_drew (by assumption) | exact cell_later (w := w2) (by assumption) (by assumption)) (first | (go_at_call 17; refine (toScale_any _ _ _ _ _).mono ?_; rintro e w3 ⟨rfl, hb⟩; have HZ := Bl.then (w := w2) (And.left (by assumption)) hb) | (go_at_call 26; refine (sLostSizes_any _ _ _ _ _ _ _ _ _ _ _ hs0 hs1).mono ?_; rintro e w3 ⟨Aw, cw, rfl, oow, hb⟩; have HZ := Bl.then (w := w2) (And.left (by assumption)) hb; have ow_3 := ownsRow_le' oow (Below.size (w := w2) (And.left (by assumption))); clear oow))
  have hb3 := HZ
  clear HZ q0_0 q0_1 q0_2 q0_3 q1_0 q1_1 q1_2 q1_3
  have H3 := Bl.then H2 hb3
  have s3 : w2.heap.size ≤ w3.heap.size := hb3.size
  obtain ⟨hc, hf⟩ := bcell H3
  have Lw := Lib.hid ow_3.lt
  clear hc hf
  have P0 := ((Blk.new w 23 #[.string s0, .int .i64 a0, .int .i64 b0, .int .i64 c0]).alloc _).below H3
  have q0_0 : w3.cell? ⟨w.heap.size, 0, none⟩ = some (.string s0) := P0.cell 0
  have q0_1 : w3.cell? ⟨w.heap.size, 1, none⟩ = some (.int .i64 a0) := P0.cell 1
  have q0_2 : w3.cell? ⟨w.heap.size, 2, none⟩ = some (.int .i64 b0) := P0.cell 2
  have q0_3 : w3.cell? ⟨w.heap.size, 3, none⟩ = some (.int .i64 c0) := P0.cell 3
  have P1 := (Blk.new1 w _ 23 #[.string s1, .int .i64 a1, .int .i64 b1, .int .i64 c1]).below H3
  have q1_0 : w3.cell? ⟨w.heap.size + 1, 0, none⟩ = some (.string s1) := P1.cell 0
  have q1_1 : w3.cell? ⟨w.heap.size + 1, 1, none⟩ = some (.int .i64 a1) := P1.cell 1
  have q1_2 : w3.cell? ⟨w.heap.size + 1, 2, none⟩ = some (.int .i64 b1) := P1.cell 2
  have q1_3 : w3.cell? ⟨w.heap.size + 1, 3, none⟩ = some (.int .i64 c1) := P1.cell 3
  go_wp2_with fail
  go_region_held3 (fun wz => Below w3.heap.size w3 wz ∧ wz.cell? ⟨w.heap.size, 0, none⟩ = some (.string s0) ∧ wz.cell? ⟨w.heap.size, 1, none⟩ = some (.int .i64 a0) ∧ wz.cell? ⟨w.heap.size, 2, none⟩ = some (.int .i64 b0) ∧ wz.cell? ⟨w.heap.size, 3, none⟩ = some (.int .i64 c0) ∧ wz.cell? ⟨w.heap.size + 1, 0, none⟩ = some (.string s1) ∧ wz.cell? ⟨w.heap.size + 1, 1, none⟩ = some (.int .i64 a1) ∧ wz.cell? ⟨w.heap.size + 1, 2, none⟩ = some (.int .i64 b1) ∧ wz.cell? ⟨w.heap.size + 1, 3, none⟩ = some (.int .i64 c1)) ((repeat' apply And.intro) <;> first | assumption | exact Below.drew (Below.refl _ _) | exact keep_drew (by assumption) | exact cell_later (w := w3) (by assumption) (by assumption)) (first | (go_at_call 17; refine (toScale_any _ _ _ _ _).mono ?_; rintro e w4 ⟨rfl, hb⟩; have HZ := Bl.then (w := w3) (And.left (by assumption)) hb) | (go_at_call 27; refine (LostSizes_any _ _ _ _ _ _ _ _ _ _ _ hs0 hs1).mono ?_; rintro e w4 ⟨Ag, cg, rfl, oog, hb⟩; have HZ := Bl.then (w := w3) (And.left (by assumption)) hb; have og_4 := ownsRow_le' oog (Below.size (w := w3) (And.left (by assumption))); clear oog))
  have hb4 := HZ
  clear HZ q0_0 q0_1 q0_2 q0_3 q1_0 q1_1 q1_2 q1_3
  have H4 := Bl.then H3 hb4
  have s4 : w3.heap.size ≤ w4.heap.size := hb4.size
  have ow_4 := own_below ow_3 hb4
  obtain ⟨hc, hf⟩ := bcell H4
  have Lg := Lib.hid og_4.lt
  go_wp2_with fail
  refine (eqInt64S_same _ _ _ _ _ _ _ (Rd.of_own og_4) (Rd.of_own ow_4) (by omega)).mono ?_
  rintro e w5 ⟨rfl, hb5⟩
  have H5 := Bl.then H4 hb5
  have s5 : w4.heap.size ≤ w5.heap.size := hb5.size
  have ow_5 := own_below ow_4 hb5
  have og_5 := own_below og_4 hb5
  clear hc hf
  obtain ⟨hc, hf⟩ := bcell H5
  go_wp2_with fail
  refine (markInt64S_any _ _ _ _ _ _ _ og_5 (by omega) (by omega)).mono ?_
  rintro e w6 ⟨rfl, u, mu, og_6, hg6⟩
  have H6 := mark_below H5 og_5 (H3.size) hg6
  have s6 : w5.heap.size ≤ w6.heap.size := hg6.size
  have ow_6 := keep_own ow_5 hg6 (dis_of Lw Lg (by omega))
  clear hc hf
  obtain ⟨hc, hf⟩ := bcell H6
  go_wp2_with fail
  refine (heldInt64S_any _ _ _ _ _ _ (Rd.of_own og_6) mu (by omega) (by omega)).mono ?_
  rintro e w7 ⟨rfl, hb7⟩
  have H7 := Bl.then H6 hb7
  have s7 : w6.heap.size ≤ w7.heap.size := hb7.size
  have ow_7 := own_below ow_6 hb7
  have og_7 := own_below og_6 hb7
  clear hc hf
  obtain ⟨hc, hf⟩ := bcell H7
  clear hc hf
  have P0 := ((Blk.new w 23 #[.string s0, .int .i64 a0, .int .i64 b0, .int .i64 c0]).alloc _).below H7
  have q0_0 : w7.cell? ⟨w.heap.size, 0, none⟩ = some (.string s0) := P0.cell 0
  have q0_1 : w7.cell? ⟨w.heap.size, 1, none⟩ = some (.int .i64 a0) := P0.cell 1
  have q0_2 : w7.cell? ⟨w.heap.size, 2, none⟩ = some (.int .i64 b0) := P0.cell 2
  have q0_3 : w7.cell? ⟨w.heap.size, 3, none⟩ = some (.int .i64 c0) := P0.cell 3
  have P1 := (Blk.new1 w _ 23 #[.string s1, .int .i64 a1, .int .i64 b1, .int .i64 c1]).below H7
  have q1_0 : w7.cell? ⟨w.heap.size + 1, 0, none⟩ = some (.string s1) := P1.cell 0
  have q1_1 : w7.cell? ⟨w.heap.size + 1, 1, none⟩ = some (.int .i64 a1) := P1.cell 1
  have q1_2 : w7.cell? ⟨w.heap.size + 1, 2, none⟩ = some (.int .i64 b1) := P1.cell 2
  have q1_3 : w7.cell? ⟨w.heap.size + 1, 3, none⟩ = some (.int .i64 c1) := P1.cell 3
  go_wp2_with fail
  go_region_held3 (fun wz => Below w7.heap.size w7 wz ∧ wz.cell? ⟨w.heap.size, 0, none⟩ = some (.string s0) ∧ wz.cell? ⟨w.heap.size, 1, none⟩ = some (.int .i64 a0) ∧ wz.cell? ⟨w.heap.size, 2, none⟩ = some (.int .i64 b0) ∧ wz.cell? ⟨w.heap.size, 3, none⟩ = some (.int .i64 c0) ∧ wz.cell? ⟨w.heap.size + 1, 0, none⟩ = some (.string s1) ∧ wz.cell? ⟨w.heap.size + 1, 1, none⟩ = some (.int .i64 a1) ∧ wz.cell? ⟨w.heap.size + 1, 2, none⟩ = some (.int .i64 b1) ∧ wz.cell? ⟨w.heap.size + 1, 3, none⟩ = some (.int .i64 c1)) ((repeat' apply And.intro) <;> first | assumption | exact Below.drew (Below.refl _ _) | exact keep_drew (by assumption) | exact cell_later (w := w7) (by assumption) (by assumption)) (first | (go_at_call 17; refine (toScale_any _ _ _ _ _).mono ?_; rintro e w8 ⟨rfl, hb⟩; have HZ := Bl.then (w := w7) (And.left (by assumption)) hb) | (go_at_call 27; refine (LostSizes_any _ _ _ _ _ _ _ _ _ _ _ hs0 hs1).mono ?_; rintro e w8 ⟨Ak, ck, rfl, ook, hb⟩; have HZ := Bl.then (w := w7) (And.left (by assumption)) hb; have ok_8 := ownsRow_le' ook (Below.size (w := w7) (And.left (by assumption))); clear ook))
  have hb8 := HZ
  clear HZ q0_0 q0_1 q0_2 q0_3 q1_0 q1_1 q1_2 q1_3
  have H8 := Bl.then H7 hb8
  have s8 : w7.heap.size ≤ w8.heap.size := hb8.size
  have ow_8 := own_below ow_7 hb8
  have og_8 := own_below og_7 hb8
  obtain ⟨hc, hf⟩ := bcell H8
  have Lk := Lib.hid ok_8.lt
  go_wp2_with fail
  refine (eqInt64S_same _ _ _ _ _ _ _ (Rd.of_own ok_8) (Rd.of_own ow_8) (by omega)).mono ?_
  rintro e w9 ⟨rfl, hb9⟩
  have H9 := Bl.then H8 hb9
  have s9 : w8.heap.size ≤ w9.heap.size := hb9.size
  have ow_9 := own_below ow_8 hb9
  have og_9 := own_below og_8 hb9
  have ok_9 := own_below ok_8 hb9
  clear hc hf
  obtain ⟨hc, hf⟩ := bcell H9
  go_wp2_with fail
  refine (heldInt64S_any _ _ _ _ _ _ (Rd.of_own og_9) mu (by omega) (by omega)).mono ?_
  rintro e w10 ⟨rfl, hb10⟩
  have H10 := Bl.then H9 hb10
  have s10 : w9.heap.size ≤ w10.heap.size := hb10.size
  have og_10 := own_below og_9 hb10
  clear hc hf
  obtain ⟨hc, hf⟩ := bcell H10
  clear hc hf
  go_wp2_with fail
  go_ret
  exact ⟨rfl, Bl.then (by go_grown) H10⟩

/-! ### The row: the argument opened, the walk, and everything read again behind it. -/
set_option maxRecDepth 100000 in
theorem lifted (os : Os) (started : os.Started) (H : Type) (enc : TypeId × Value → H) :
    ReturnsInHanded {} Try.checked os 7 .any (Rows.fnExactLostSizesSpec.pre6 enc Try.prog Try.f7 Rows.fnExactLostSizesRow.domain false) (Rows.fnExactLostSizesSpec.post enc Try.prog Try.f7 false true false false) := by
  refine returnsInHanded_of_change (C := Try.checked) own started (by kernel_rfl) Try.func7
    (ChangeSpec.witness6 (enc := enc) (C := Try.checked) false ⟨#[], #[.agg #[.string ByteArray.empty, .int .i64 0, .int .i64 0, .int .i64 0], .agg #[.string ByteArray.empty, .int .i64 0, .int .i64 0, .int .i64 0], .int .i64 0, .int .i64 0], []⟩ 8 (by kernel_rfl) (by kernel_rfl) (by kernel_rfl) (by kernel_rfl)) ?_
  intro W base args ds gs before hval0 hW hcnd _
  have hval : ∀ (j : Nat) t v, Try.f7.params[j]? = some t → args[j]? = some v → Value.okWide Try.prog W .any base t v := hval0
  have hW' := hW
  obtain ⟨p, q, hA0, hV, rfl, hfz, hnd⟩ := hW
  have hA : DataW.TrodAll enc Try.prog W 0 (fun _ => true) true Try.f7.params.toList args.toList ds p := hA0
  rw [Try.params7] at hA hval
  obtain ⟨v0, vs0, d0, ds0, p0, q0, hargs, rfl, rfl, h0, r0⟩ := trodAll_cons hA
  obtain ⟨v1, vs1, d1, ds1, p1, q1, rfl, rfl, rfl, h1, r1⟩ := trodAll_cons r0
  obtain ⟨v2, vs2, d2, ds2, p2, q2, rfl, rfl, rfl, h2, r2⟩ := trodAll_cons r1
  obtain ⟨v3, vs3, d3, ds3, p3, q3, rfl, rfl, rfl, h3, r3⟩ := trodAll_cons r2
  obtain ⟨rfl, rfl, rfl⟩ := trodAll_nil r3
  obtain rfl : args = #[v0, v1, v2, v3] := by cases args; simp_all
  obtain ⟨rfl, rfl⟩ := trodVars_none hV
  have k0 := h0
  have lt0 : ∀ x ∈ p0, x.block < W.heap.size := by obtain ⟨m, hm⟩ := k0; exact DataW.trod_lt m _ _ _ hm
  have k1 := h1
  have lt1 : ∀ x ∈ p1, x.block < W.heap.size := by obtain ⟨m, hm⟩ := k1; exact DataW.trod_lt m _ _ _ hm
  have k2 := h2
  have lt2 : ∀ x ∈ p2, x.block < W.heap.size := by obtain ⟨m, hm⟩ := k2; exact DataW.trod_lt m _ _ _ hm
  have k3 := h3
  have lt3 : ∀ x ∈ p3, x.block < W.heap.size := by obtain ⟨m, hm⟩ := k3; exact DataW.trod_lt m _ _ _ hm
  obtain ⟨s0, a0, b0, c0, rfl, hs0, -, -, -⟩ := open_Scale (hval 0 23 v0 rfl rfl) h0
  obtain ⟨s1, a1, b1, c1, rfl, hs1, -, -, -⟩ := open_Scale (hval 1 23 v1 rfl rfl) h1
  obtain ⟨x2, rfl, rfl, rfl, wf2⟩ := open_int Try.underlying2 (hval 2 2 v2 rfl rfl) h2
  obtain ⟨x3, rfl, rfl, rfl, wf3⟩ := open_int Try.underlying2 (hval 3 2 v3 rfl rfl) h3
  clear hA0 hval0
  refine (walk s0 a0 b0 c0 s1 a1 b1 c1 x2 x3 W hs0 hs1).mono fun e W' ⟨he, bel⟩ => ?_
  subst he
  exact ⟨_, rfl, _, _, _, [], _, [], hW', trodAll_mk1 (shut_bool Try.underlying4 _), (trodAll_cons_mk (Below.trod laidOut (by kernel_rfl) (of_decide_eq_true (by kernel_rfl)) k0 bel lt0) (trodAll_cons_mk (Below.trod laidOut (by kernel_rfl) (of_decide_eq_true (by kernel_rfl)) k1 bel lt1) (trodAll_cons_mk (Below.trod laidOut (by kernel_rfl) (of_decide_eq_true (by kernel_rfl)) k2 bel lt2) (trodAll_cons_mk (Below.trod laidOut (by kernel_rfl) (of_decide_eq_true (by kernel_rfl)) k3 bel lt3) trodAll_mk0)))), rfl, bel.frame _, fun h => by cases h⟩

theorem over : Rows.fnExactLostSizesRow.holds Try.pinned (OpenSpec.ofChange Rows.fnExactLostSizesSpec) :=
  OpenClaim.holds_of_wide 7 Try.f7 rfl rfl rfl rfl rfl rfl rfl ⟨rfl, rfl, rfl, rfl, rfl⟩ rfl rfl rfl rfl rfl (by kernel_rfl) Try.func7 (by kernel_rfl)
    (of_decide_eq_true (by kernel_rfl)) (by unfold Func.isWrapper; first | (rw [if_pos (by decide +kernel)]; kernel_rfl) | (rw [if_neg (by decide +kernel)]; exact ⟨rfl, rfl⟩))
    (fun os started H enc _ => lifted os started H enc)

theorem proved : Rows.FnExactLostSizesSaid := over
end Go.Proofs.Ytpmdgbdeibeoaaa.lawLostSizes
