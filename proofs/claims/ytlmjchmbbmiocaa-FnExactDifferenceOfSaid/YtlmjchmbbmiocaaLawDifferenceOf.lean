/-
  The law FnExactDifferenceOf: the program's DifferenceOf returns what the reference's returns; for all arguments, no condition.
-/
import Derived.Test.YtlmjchmbbmiocaaOpen
import Derived.Test.YtlmjchmbbmiocaaTo
import Derived.Test.YtlmjchmbbmiocaaInts
import Derived.Test.YtlmjchmbbmiocaaBlk
import Derived.Test.YtlmjchmbbmiocaaDiff
import Derived.ProofKit
import Derived.OpenShut
import Derived.ShutString
import Derived.ChangeOld
import Derived.Deep.RegionHeld3
namespace Go.Proofs.Ytlmjchmbbmiocaa.lawDifferenceOf
open Go.ChangeShapes Go.WideShapes Go.ChangeAt Go.RowKit
set_option linter.unusedVariables false

set_option maxHeartbeats 800000 in
theorem walk (a0 b0 c0 d0 : Int) (a1 b1 c1 d1 : Int) (w : World)  :
    Calls Try.prog 4 #[.agg #[.int .i64 a0, .int .i64 b0, .int .i64 c0, .int .i64 d0], .agg #[.int .i64 a1, .int .i64 b1, .int .i64 c1, .int .i64 d1]] w fun e w' => e = .returned (.bool true) ∧ Below w.heap.size w w' := by
  have hlen : (diffR a0 b0 c0 d0 a1 b1 c1 d1).1.length ≤ 1048577 := diffR_len _ _ _ _ _ _ _ _
  go_enter Try.func4, Try.ntmps4
  have H0 : Below ((w.alloc (.cells #[.int .i64 a0, .int .i64 b0, .int .i64 c0, .int .i64 d0] 30)).alloc (.cells #[.int .i64 a1, .int .i64 b1, .int .i64 c1, .int .i64 d1] 30)).heap.size ((w.alloc (.cells #[.int .i64 a0, .int .i64 b0, .int .i64 c0, .int .i64 d0] 30)).alloc (.cells #[.int .i64 a1, .int .i64 b1, .int .i64 c1, .int .i64 d1] 30)) ((w.alloc (.cells #[.int .i64 a0, .int .i64 b0, .int .i64 c0, .int .i64 d0] 30)).alloc (.cells #[.int .i64 a1, .int .i64 b1, .int .i64 c1, .int .i64 d1] 30)) := Below.refl _ _
  have P0 := ((Blk.new w 30 #[.int .i64 a0, .int .i64 b0, .int .i64 c0, .int .i64 d0]).alloc _).below H0
  have q0_0 : ((w.alloc (.cells #[.int .i64 a0, .int .i64 b0, .int .i64 c0, .int .i64 d0] 30)).alloc (.cells #[.int .i64 a1, .int .i64 b1, .int .i64 c1, .int .i64 d1] 30)).cell? ⟨w.heap.size, 0, none⟩ = some (.int .i64 a0) := P0.cell 0
  have q0_1 : ((w.alloc (.cells #[.int .i64 a0, .int .i64 b0, .int .i64 c0, .int .i64 d0] 30)).alloc (.cells #[.int .i64 a1, .int .i64 b1, .int .i64 c1, .int .i64 d1] 30)).cell? ⟨w.heap.size, 1, none⟩ = some (.int .i64 b0) := P0.cell 1
  have q0_2 : ((w.alloc (.cells #[.int .i64 a0, .int .i64 b0, .int .i64 c0, .int .i64 d0] 30)).alloc (.cells #[.int .i64 a1, .int .i64 b1, .int .i64 c1, .int .i64 d1] 30)).cell? ⟨w.heap.size, 2, none⟩ = some (.int .i64 c0) := P0.cell 2
  have q0_3 : ((w.alloc (.cells #[.int .i64 a0, .int .i64 b0, .int .i64 c0, .int .i64 d0] 30)).alloc (.cells #[.int .i64 a1, .int .i64 b1, .int .i64 c1, .int .i64 d1] 30)).cell? ⟨w.heap.size, 3, none⟩ = some (.int .i64 d0) := P0.cell 3
  have P1 := (Blk.new1 w _ 30 #[.int .i64 a1, .int .i64 b1, .int .i64 c1, .int .i64 d1]).below H0
  have q1_0 : ((w.alloc (.cells #[.int .i64 a0, .int .i64 b0, .int .i64 c0, .int .i64 d0] 30)).alloc (.cells #[.int .i64 a1, .int .i64 b1, .int .i64 c1, .int .i64 d1] 30)).cell? ⟨w.heap.size + 1, 0, none⟩ = some (.int .i64 a1) := P1.cell 0
  have q1_1 : ((w.alloc (.cells #[.int .i64 a0, .int .i64 b0, .int .i64 c0, .int .i64 d0] 30)).alloc (.cells #[.int .i64 a1, .int .i64 b1, .int .i64 c1, .int .i64 d1] 30)).cell? ⟨w.heap.size + 1, 1, none⟩ = some (.int .i64 b1) := P1.cell 1
  have q1_2 : ((w.alloc (.cells #[.int .i64 a0, .int .i64 b0, .int .i64 c0, .int .i64 d0] 30)).alloc (.cells #[.int .i64 a1, .int .i64 b1, .int .i64 c1, .int .i64 d1] 30)).cell? ⟨w.heap.size + 1, 2, none⟩ = some (.int .i64 c1) := P1.cell 2
  have q1_3 : ((w.alloc (.cells #[.int .i64 a0, .int .i64 b0, .int .i64 c0, .int .i64 d0] 30)).alloc (.cells #[.int .i64 a1, .int .i64 b1, .int .i64 c1, .int .i64 d1] 30)).cell? ⟨w.heap.size + 1, 3, none⟩ = some (.int .i64 d1) := P1.cell 3
  go_wp2_with fail
  go_region_held3 (fun wz => Below ((w.alloc (.cells #[.int .i64 a0, .int .i64 b0, .int .i64 c0, .int .i64 d0] 30)).alloc (.cells #[.int .i64 a1, .int .i64 b1, .int .i64 c1, .int .i64 d1] 30)).heap.size ((w.alloc (.cells #[.int .i64 a0, .int .i64 b0, .int .i64 c0, .int .i64 d0] 30)).alloc (.cells #[.int .i64 a1, .int .i64 b1, .int .i64 c1, .int .i64 d1] 30)) wz ∧ wz.cell? ⟨w.heap.size, 0, none⟩ = some (.int .i64 a0) ∧ wz.cell? ⟨w.heap.size, 1, none⟩ = some (.int .i64 b0) ∧ wz.cell? ⟨w.heap.size, 2, none⟩ = some (.int .i64 c0) ∧ wz.cell? ⟨w.heap.size, 3, none⟩ = some (.int .i64 d0) ∧ wz.cell? ⟨w.heap.size + 1, 0, none⟩ = some (.int .i64 a1) ∧ wz.cell? ⟨w.heap.size + 1, 1, none⟩ = some (.int .i64 b1) ∧ wz.cell? ⟨w.heap.size + 1, 2, none⟩ = some (.int .i64 c1) ∧ wz.cell? ⟨w.heap.size + 1, 3, none⟩ = some (.int .i64 d1)) ((repeat' apply And.intro) <;> first | assumption | exact Below.drew (Below.refl _ _) | exact keep_drew (by assumption) | exact cell_later (w := ((w.alloc (.cells #[.int .i64 a0, .int .i64 b0, .int .i64 c0, .int .i64 d0] 30)).alloc (.cells #[.int .i64 a1, .int .i64 b1, .int .i64 c1, .int .i64 d1] 30))) (by assumption) (by assumption)) (first | (go_at_call 18; refine (toFoot_any _ _ _ _ _).mono ?_; rintro e w1 ⟨rfl, hb⟩; have HZ := Bl.then (w := ((w.alloc (.cells #[.int .i64 a0, .int .i64 b0, .int .i64 c0, .int .i64 d0] 30)).alloc (.cells #[.int .i64 a1, .int .i64 b1, .int .i64 c1, .int .i64 d1] 30))) (And.left (by assumption)) hb) | (go_at_call 17; refine (sDifferenceOf_any _ _ _ _ _ _ _ _ _).mono ?_; rintro e w1 ⟨Aw, cw, rfl, oow, hb⟩; have HZ := Bl.then (w := ((w.alloc (.cells #[.int .i64 a0, .int .i64 b0, .int .i64 c0, .int .i64 d0] 30)).alloc (.cells #[.int .i64 a1, .int .i64 b1, .int .i64 c1, .int .i64 d1] 30))) (And.left (by assumption)) hb; have ow_1 := ownsRow_le' oow (Below.size (w := ((w.alloc (.cells #[.int .i64 a0, .int .i64 b0, .int .i64 c0, .int .i64 d0] 30)).alloc (.cells #[.int .i64 a1, .int .i64 b1, .int .i64 c1, .int .i64 d1] 30))) (And.left (by assumption))); clear oow))
  have hb1 := HZ
  clear HZ q0_0 q0_1 q0_2 q0_3 q1_0 q1_1 q1_2 q1_3
  have H1 := Bl.then H0 hb1
  obtain ⟨hc, hf⟩ := bcell H1
  have Lw := Lib.hid ow_1.lt
  clear hc hf
  have P0 := ((Blk.new w 30 #[.int .i64 a0, .int .i64 b0, .int .i64 c0, .int .i64 d0]).alloc _).below H1
  have q0_0 : w1.cell? ⟨w.heap.size, 0, none⟩ = some (.int .i64 a0) := P0.cell 0
  have q0_1 : w1.cell? ⟨w.heap.size, 1, none⟩ = some (.int .i64 b0) := P0.cell 1
  have q0_2 : w1.cell? ⟨w.heap.size, 2, none⟩ = some (.int .i64 c0) := P0.cell 2
  have q0_3 : w1.cell? ⟨w.heap.size, 3, none⟩ = some (.int .i64 d0) := P0.cell 3
  have P1 := (Blk.new1 w _ 30 #[.int .i64 a1, .int .i64 b1, .int .i64 c1, .int .i64 d1]).below H1
  have q1_0 : w1.cell? ⟨w.heap.size + 1, 0, none⟩ = some (.int .i64 a1) := P1.cell 0
  have q1_1 : w1.cell? ⟨w.heap.size + 1, 1, none⟩ = some (.int .i64 b1) := P1.cell 1
  have q1_2 : w1.cell? ⟨w.heap.size + 1, 2, none⟩ = some (.int .i64 c1) := P1.cell 2
  have q1_3 : w1.cell? ⟨w.heap.size + 1, 3, none⟩ = some (.int .i64 d1) := P1.cell 3
  go_wp2_with fail
  go_region_held3 (fun wz => Below w1.heap.size w1 wz ∧ wz.cell? ⟨w.heap.size, 0, none⟩ = some (.int .i64 a0) ∧ wz.cell? ⟨w.heap.size, 1, none⟩ = some (.int .i64 b0) ∧ wz.cell? ⟨w.heap.size, 2, none⟩ = some (.int .i64 c0) ∧ wz.cell? ⟨w.heap.size, 3, none⟩ = some (.int .i64 d0) ∧ wz.cell? ⟨w.heap.size + 1, 0, none⟩ = some (.int .i64 a1) ∧ wz.cell? ⟨w.heap.size + 1, 1, none⟩ = some (.int .i64 b1) ∧ wz.cell? ⟨w.heap.size + 1, 2, none⟩ = some (.int .i64 c1) ∧ wz.cell? ⟨w.heap.size + 1, 3, none⟩ = some (.int .i64 d1)) ((repeat' apply And.intro) <;> first | assumption | exact Below.drew (Below.refl _ _) | exact keep_drew (by assumption) | exact cell_later (w := w1) (by assumption) (by assumption)) (first | (go_at_call 18; refine (toFoot_any _ _ _ _ _).mono ?_; rintro e w2 ⟨rfl, hb⟩; have HZ := Bl.then (w := w1) (And.left (by assumption)) hb) | (go_at_call 19; refine (DifferenceOf_any _ _ _ _ _ _ _ _ _).mono ?_; rintro e w2 ⟨Ag, cg, rfl, oog, hb⟩; have HZ := Bl.then (w := w1) (And.left (by assumption)) hb; have og_2 := ownsRow_le' oog (Below.size (w := w1) (And.left (by assumption))); clear oog))
  have hb2 := HZ
  clear HZ q0_0 q0_1 q0_2 q0_3 q1_0 q1_1 q1_2 q1_3
  have H2 := Bl.then H1 hb2
  have s2 : w1.heap.size ≤ w2.heap.size := hb2.size
  have ow_2 := own_below ow_1 hb2
  obtain ⟨hc, hf⟩ := bcell H2
  have Lg := Lib.hid og_2.lt
  go_wp2_with fail
  refine (eqInt64S_same _ _ _ _ _ _ _ (Rd.of_own og_2) (Rd.of_own ow_2) (by omega)).mono ?_
  rintro e w3 ⟨rfl, hb3⟩
  have H3 := Bl.then H2 hb3
  have s3 : w2.heap.size ≤ w3.heap.size := hb3.size
  have ow_3 := own_below ow_2 hb3
  have og_3 := own_below og_2 hb3
  clear hc hf
  obtain ⟨hc, hf⟩ := bcell H3
  go_wp2_with fail
  refine (markInt64S_any _ _ _ _ _ _ _ og_3 (by omega) (by omega)).mono ?_
  rintro e w4 ⟨rfl, u, mu, og_4, hg4⟩
  have H4 := mark_below H3 og_3 (H1.size) hg4
  have s4 : w3.heap.size ≤ w4.heap.size := hg4.size
  have ow_4 := keep_own ow_3 hg4 (dis_of Lw Lg (by omega))
  clear hc hf
  obtain ⟨hc, hf⟩ := bcell H4
  go_wp2_with fail
  refine (heldInt64S_any _ _ _ _ _ _ (Rd.of_own og_4) mu (by omega) (by omega)).mono ?_
  rintro e w5 ⟨rfl, hb5⟩
  have H5 := Bl.then H4 hb5
  have s5 : w4.heap.size ≤ w5.heap.size := hb5.size
  have ow_5 := own_below ow_4 hb5
  have og_5 := own_below og_4 hb5
  clear hc hf
  obtain ⟨hc, hf⟩ := bcell H5
  clear hc hf
  have P0 := ((Blk.new w 30 #[.int .i64 a0, .int .i64 b0, .int .i64 c0, .int .i64 d0]).alloc _).below H5
  have q0_0 : w5.cell? ⟨w.heap.size, 0, none⟩ = some (.int .i64 a0) := P0.cell 0
  have q0_1 : w5.cell? ⟨w.heap.size, 1, none⟩ = some (.int .i64 b0) := P0.cell 1
  have q0_2 : w5.cell? ⟨w.heap.size, 2, none⟩ = some (.int .i64 c0) := P0.cell 2
  have q0_3 : w5.cell? ⟨w.heap.size, 3, none⟩ = some (.int .i64 d0) := P0.cell 3
  have P1 := (Blk.new1 w _ 30 #[.int .i64 a1, .int .i64 b1, .int .i64 c1, .int .i64 d1]).below H5
  have q1_0 : w5.cell? ⟨w.heap.size + 1, 0, none⟩ = some (.int .i64 a1) := P1.cell 0
  have q1_1 : w5.cell? ⟨w.heap.size + 1, 1, none⟩ = some (.int .i64 b1) := P1.cell 1
  have q1_2 : w5.cell? ⟨w.heap.size + 1, 2, none⟩ = some (.int .i64 c1) := P1.cell 2
  have q1_3 : w5.cell? ⟨w.heap.size + 1, 3, none⟩ = some (.int .i64 d1) := P1.cell 3
  go_wp2_with fail
  go_region_held3 (fun wz => Below w5.heap.size w5 wz ∧ wz.cell? ⟨w.heap.size, 0, none⟩ = some (.int .i64 a0) ∧ wz.cell? ⟨w.heap.size, 1, none⟩ = some (.int .i64 b0) ∧ wz.cell? ⟨w.heap.size, 2, none⟩ = some (.int .i64 c0) ∧ wz.cell? ⟨w.heap.size, 3, none⟩ = some (.int .i64 d0) ∧ wz.cell? ⟨w.heap.size + 1, 0, none⟩ = some (.int .i64 a1) ∧ wz.cell? ⟨w.heap.size + 1, 1, none⟩ = some (.int .i64 b1) ∧ wz.cell? ⟨w.heap.size + 1, 2, none⟩ = some (.int .i64 c1) ∧ wz.cell? ⟨w.heap.size + 1, 3, none⟩ = some (.int .i64 d1)) ((repeat' apply And.intro) <;> first | assumption | exact Below.drew (Below.refl _ _) | exact keep_drew (by assumption) | exact cell_later (w := w5) (by assumption) (by assumption)) (first | (go_at_call 18; refine (toFoot_any _ _ _ _ _).mono ?_; rintro e w6 ⟨rfl, hb⟩; have HZ := Bl.then (w := w5) (And.left (by assumption)) hb) | (go_at_call 19; refine (DifferenceOf_any _ _ _ _ _ _ _ _ _).mono ?_; rintro e w6 ⟨Ak, ck, rfl, ook, hb⟩; have HZ := Bl.then (w := w5) (And.left (by assumption)) hb; have ok_6 := ownsRow_le' ook (Below.size (w := w5) (And.left (by assumption))); clear ook))
  have hb6 := HZ
  clear HZ q0_0 q0_1 q0_2 q0_3 q1_0 q1_1 q1_2 q1_3
  have H6 := Bl.then H5 hb6
  have s6 : w5.heap.size ≤ w6.heap.size := hb6.size
  have ow_6 := own_below ow_5 hb6
  have og_6 := own_below og_5 hb6
  obtain ⟨hc, hf⟩ := bcell H6
  have Lk := Lib.hid ok_6.lt
  go_wp2_with fail
  refine (eqInt64S_same _ _ _ _ _ _ _ (Rd.of_own ok_6) (Rd.of_own ow_6) (by omega)).mono ?_
  rintro e w7 ⟨rfl, hb7⟩
  have H7 := Bl.then H6 hb7
  have s7 : w6.heap.size ≤ w7.heap.size := hb7.size
  have ow_7 := own_below ow_6 hb7
  have og_7 := own_below og_6 hb7
  have ok_7 := own_below ok_6 hb7
  clear hc hf
  obtain ⟨hc, hf⟩ := bcell H7
  go_wp2_with fail
  refine (heldInt64S_any _ _ _ _ _ _ (Rd.of_own og_7) mu (by omega) (by omega)).mono ?_
  rintro e w8 ⟨rfl, hb8⟩
  have H8 := Bl.then H7 hb8
  have s8 : w7.heap.size ≤ w8.heap.size := hb8.size
  have og_8 := own_below og_7 hb8
  clear hc hf
  obtain ⟨hc, hf⟩ := bcell H8
  clear hc hf
  go_wp2_with fail
  go_ret
  exact ⟨rfl, Bl.then (by go_grown) H8⟩

/-! ### The row: the argument opened, the walk, and everything read again behind it. -/
set_option maxRecDepth 100000 in
theorem lifted (os : Os) (started : os.Started) (H : Type) (enc : TypeId × Value → H) :
    ReturnsInHanded {} Try.checked os 4 .any (Rows.fnExactDifferenceOfSpec.pre6 enc Try.prog Try.f4 Rows.fnExactDifferenceOfRow.domain false) (Rows.fnExactDifferenceOfSpec.post enc Try.prog Try.f4 false true false false) := by
  refine returnsInHanded_of_change (C := Try.checked) own started (by kernel_rfl) Try.func4
    (ChangeSpec.witness6 (enc := enc) (C := Try.checked) false ⟨#[], #[.agg #[.int .i64 0, .int .i64 0, .int .i64 0, .int .i64 0], .agg #[.int .i64 0, .int .i64 0, .int .i64 0, .int .i64 0]], []⟩ 8 (by kernel_rfl) (by kernel_rfl) (by kernel_rfl) (by kernel_rfl)) ?_
  intro W base args ds gs before hval0 hW hcnd _
  have hval : ∀ (j : Nat) t v, Try.f4.params[j]? = some t → args[j]? = some v → Value.okWide Try.prog W .any base t v := hval0
  have hW' := hW
  obtain ⟨p, q, hA0, hV, rfl, hfz, hnd⟩ := hW
  have hA : DataW.TrodAll enc Try.prog W 0 (fun _ => true) true Try.f4.params.toList args.toList ds p := hA0
  rw [Try.params4] at hA hval
  obtain ⟨v0, vs0, d0, ds0, p0, q0, hargs, rfl, rfl, h0, r0⟩ := trodAll_cons hA
  obtain ⟨v1, vs1, d1, ds1, p1, q1, rfl, rfl, rfl, h1, r1⟩ := trodAll_cons r0
  obtain ⟨rfl, rfl, rfl⟩ := trodAll_nil r1
  obtain rfl : args = #[v0, v1] := by cases args; simp_all
  obtain ⟨rfl, rfl⟩ := trodVars_none hV
  have k0 := h0
  have lt0 : ∀ x ∈ p0, x.block < W.heap.size := by obtain ⟨m, hm⟩ := k0; exact DataW.trod_lt m _ _ _ hm
  have k1 := h1
  have lt1 : ∀ x ∈ p1, x.block < W.heap.size := by obtain ⟨m, hm⟩ := k1; exact DataW.trod_lt m _ _ _ hm
  obtain ⟨a0, b0, c0, d0, rfl, -, -, -, -⟩ := open_Foot (hval 0 30 v0 rfl rfl) h0
  obtain ⟨a1, b1, c1, d1, rfl, -, -, -, -⟩ := open_Foot (hval 1 30 v1 rfl rfl) h1
  clear hA0 hval0
  refine (walk a0 b0 c0 d0 a1 b1 c1 d1 W ).mono fun e W' ⟨he, bel⟩ => ?_
  subst he
  exact ⟨_, rfl, _, _, _, [], _, [], hW', trodAll_mk1 (shut_bool Try.underlying4 _), (trodAll_cons_mk (Below.trod laidOut (by kernel_rfl) (of_decide_eq_true (by kernel_rfl)) k0 bel lt0) (trodAll_cons_mk (Below.trod laidOut (by kernel_rfl) (of_decide_eq_true (by kernel_rfl)) k1 bel lt1) trodAll_mk0)), rfl, bel.frame _, fun h => by cases h⟩

theorem over : Rows.fnExactDifferenceOfRow.holds Try.pinned (OpenSpec.ofChange Rows.fnExactDifferenceOfSpec) :=
  OpenClaim.holds_of_wide 4 Try.f4 rfl rfl rfl rfl rfl rfl rfl ⟨rfl, rfl, rfl, rfl, rfl⟩ rfl rfl rfl rfl rfl (by kernel_rfl) Try.func4 (by kernel_rfl)
    (of_decide_eq_true (by kernel_rfl)) (by unfold Func.isWrapper; first | (rw [if_pos (by decide +kernel)]; kernel_rfl) | (rw [if_neg (by decide +kernel)]; exact ⟨rfl, rfl⟩))
    (fun os started H enc _ => lifted os started H enc)

theorem proved : Rows.FnExactDifferenceOfSaid := over
end Go.Proofs.Ytlmjchmbbmiocaa.lawDifferenceOf
