/-
  The law FnExactLargerFoot: the program's LargerFoot returns what the reference's returns; for all arguments, no condition.
-/
import Derived.Test.YtlmjchmbbmiocaaOpen
import Derived.Test.YtlmjchmbbmiocaaTo
import Derived.Test.YtlmjchmbbmiocaaLarger
import Derived.ProofKit
import Derived.OpenShut
import Derived.ShutString
import Derived.ChangeOld
import Derived.Deep.RegionHeld3
import Derived.Deep.DeepCutAuto
namespace Go.Proofs.Ytlmjchmbbmiocaa.lawLargerFoot
open Go.ChangeShapes Go.WideShapes Go.ChangeAt Go.RowKit
set_option linter.unusedVariables false

set_option maxRecDepth 100000 in
set_option maxHeartbeats 1600000 in
theorem walk (a0 b0 c0 d0 : Int) (a1 b1 c1 d1 : Int) (w : World)  :
    Calls Try.prog 7 #[.agg #[.int .i64 a0, .int .i64 b0, .int .i64 c0, .int .i64 d0], .agg #[.int .i64 a1, .int .i64 b1, .int .i64 c1, .int .i64 d1]] w fun e w' => e = .returned (.bool true) ∧ Below w.heap.size w w' := by
  go_enter Try.func7, Try.ntmps7
  go_upto_region 1 with fail
  obtain ⟨w0, ew0⟩ : ∃ w0 : World, w0 = ((w.alloc (.cells #[.int .i64 a0, .int .i64 b0, .int .i64 c0, .int .i64 d0] 30)).alloc (.cells #[.int .i64 a1, .int .i64 b1, .int .i64 c1, .int .i64 d1] 30)) := ⟨_, rfl⟩
  have H0 : Below ((w.alloc (.cells #[.int .i64 a0, .int .i64 b0, .int .i64 c0, .int .i64 d0] 30)).alloc (.cells #[.int .i64 a1, .int .i64 b1, .int .i64 c1, .int .i64 d1] 30)).heap.size ((w.alloc (.cells #[.int .i64 a0, .int .i64 b0, .int .i64 c0, .int .i64 d0] 30)).alloc (.cells #[.int .i64 a1, .int .i64 b1, .int .i64 c1, .int .i64 d1] 30)) w0 := by rw [ew0]; exact Below.refl _ _
  rw [← ew0]
  have P0 := ((Blk.new w 30 #[.int .i64 a0, .int .i64 b0, .int .i64 c0, .int .i64 d0]).alloc _).below H0
  have P1 := (Blk.new1 w _ 30 #[.int .i64 a1, .int .i64 b1, .int .i64 c1, .int .i64 d1]).below H0
  have HW : Below w.heap.size w w0 := Bl.then (by go_grown) H0
  clear H0 ew0
  go_cut [5, 6] (fun p v wx => ∃ g, p = .pointer (some ⟨g, 0, none⟩) ∧ v = .int .i64 (largC a0 b0 c0 d0 a1 b1 c1 d1) ∧ Blk wx g 34 #[.int .i64 (fNum (largC a0 b0 c0 d0 a1 b1 c1 d1) (mx2 a0 a1)), .int .i64 (fNum (largC a0 b0 c0 d0 a1 b1 c1 d1) (mx2 b0 b1)), .int .i64 (fNum (largC a0 b0 c0 d0 a1 b1 c1 d1) (mx2 c0 c1)), .int .i64 (fNum (largC a0 b0 c0 d0 a1 b1 c1 d1) (mx2 d0 d1))] ∧ Below w0.heap.size w0 wx)
  case first =>
    have qP0 := P0.cell
    have lP0 := P0.lt
    have qP1 := P1.cell
    have lP1 := P1.lt
    clear P0 P1 HW
    go_region_held3 (fun wz => Below w0.heap.size w0 wz ∧ ∀ b o, b < w0.heap.size → wz.cell? ⟨b, o, none⟩ = w0.cell? ⟨b, o, none⟩) ((refine old_of ?_; (try (repeat refine Below.setCell ?_ (by first | exact Nat.le_refl _ | omega | (dsimp only; omega)) _)); with_reducible first | assumption | exact Below.drew (Below.refl _ _) | exact Below.drew (Bl.alloc (Below.refl _ _) _) | exact Bl.alloc (by assumption) _)) (first | (go_at_call 18; (with_reducible refine (toFoot_any _ _ _ _ _).mono ?_); rintro e w800 ⟨rfl, hb800⟩; have HZ := Bl.then (w := w0) (And.left (by assumption)) hb800; have hz := HZ.size; (with_reducible first | (have HB := (Blk.new _ _ _).drew.below hb800; have hB := HB.cell; have hF := HB.frozen) | (have HB := (Blk.new _ _ _).below hb800; have hB := HB.cell; have hF := HB.frozen) | (have HB := HB.below hb800; have hB := HB.cell; have hF := HB.frozen) | skip)) | (go_at_call 29; (with_reducible refine (sLargerFoot_any _ _ _ _ _ _ _ _ _).mono ?_); rintro e w801 ⟨rfl, hb801⟩; have HZ := Bl.then (w := w0) (And.left (by assumption)) hb801; have hz := HZ.size; (with_reducible first | (have HB := (Blk.new _ _ _).drew.below hb801; have hB := HB.cell; have hF := HB.frozen) | (have HB := (Blk.new _ _ _).below hb801; have hB := HB.cell; have hF := HB.frozen) | (have HB := HB.below hb801; have hB := HB.cell; have hF := HB.frozen) | skip)))
    all_goals
      go_wp2_with fail
      go_meet
      refine ⟨_, rfl, rfl, ?_, And.left (by assumption)⟩
      first | exact ((((HB.set 0 _).set 1 _).set 2 _).set 3 _) | exact Blk.new _ _ _
  case rest =>
  obtain ⟨g1, rfl, rfl, B1, HC1⟩ := hcut
  obtain ⟨wa, rfl⟩ : ∃ wa : World, wa = wc := ⟨_, rfl⟩
  have HW1 := Bl.then HW HC1
  clear HW
  have HW := HW1
  have R0 := P0.below HC1
  have R1 := P1.below HC1
  clear P0 P1 HC1 HW1
  go_upto_region 2 with fail
  go_cut [7, 8] (fun p v wx => ∃ g, p = .pointer (some ⟨g, 0, none⟩) ∧ v = .int .i64 (largC a0 b0 c0 d0 a1 b1 c1 d1) ∧ Blk wx g 34 #[.int .i64 (fNum (largC a0 b0 c0 d0 a1 b1 c1 d1) (mx2 a0 a1)), .int .i64 (fNum (largC a0 b0 c0 d0 a1 b1 c1 d1) (mx2 b0 b1)), .int .i64 (fNum (largC a0 b0 c0 d0 a1 b1 c1 d1) (mx2 c0 c1)), .int .i64 (fNum (largC a0 b0 c0 d0 a1 b1 c1 d1) (mx2 d0 d1))] ∧ Below wa.heap.size wa wx)
  case first =>
    have qR0 := R0.cell
    have lR0 := R0.lt
    have qR1 := R1.cell
    have lR1 := R1.lt
    have qB1 := B1.cell
    have lB1 := B1.lt
    clear R0 R1 B1 HW
    go_region_held3 (fun wz => Below wa.heap.size wa wz ∧ ∀ b o, b < wa.heap.size → wz.cell? ⟨b, o, none⟩ = wa.cell? ⟨b, o, none⟩) ((refine old_of ?_; (try (repeat refine Below.setCell ?_ (by first | exact Nat.le_refl _ | omega | (dsimp only; omega)) _)); with_reducible first | assumption | exact Below.drew (Below.refl _ _) | exact Below.drew (Bl.alloc (Below.refl _ _) _) | exact Bl.alloc (by assumption) _)) (first | (go_at_call 18; (with_reducible refine (toFoot_any _ _ _ _ _).mono ?_); rintro e w800 ⟨rfl, hb800⟩; have HZ := Bl.then (w := wa) (And.left (by assumption)) hb800; have hz := HZ.size; (with_reducible first | (have HB := (Blk.new _ _ _).drew.below hb800; have hB := HB.cell; have hF := HB.frozen) | (have HB := (Blk.new _ _ _).below hb800; have hB := HB.cell; have hF := HB.frozen) | (have HB := HB.below hb800; have hB := HB.cell; have hF := HB.frozen) | skip)) | (go_at_call 30; (with_reducible refine (LargerFoot_any _ _ _ _ _ _ _ _ _).mono ?_); rintro e w801 ⟨rfl, hb801⟩; have HZ := Bl.then (w := wa) (And.left (by assumption)) hb801; have hz := HZ.size; (with_reducible first | (have HB := (Blk.new _ _ _).drew.below hb801; have hB := HB.cell; have hF := HB.frozen) | (have HB := (Blk.new _ _ _).below hb801; have hB := HB.cell; have hF := HB.frozen) | (have HB := HB.below hb801; have hB := HB.cell; have hF := HB.frozen) | skip)))
    all_goals
      go_wp2_with fail
      go_meet
      refine ⟨_, rfl, rfl, ?_, And.left (by assumption)⟩
      first | exact ((((HB.set 0 _).set 1 _).set 2 _).set 3 _) | exact Blk.new _ _ _
  case rest =>
  obtain ⟨g2, rfl, rfl, B2, HC2⟩ := hcut
  have B3 := B1.below HC2
  have HW2 := Bl.then HW HC2
  clear HW HC2 R0 R1 B1
  have k1 := B3.cell
  have k2 := B2.cell
  go_wp2_with fail
  refine (eqFootV_same _ _ _ _ _).mono ?_
  rintro e w9 ⟨rfl, hb9⟩
  go_wp2_with fail
  go_ret
  exact ⟨rfl, Bl.then HW2 hb9⟩

/-! ### The row: the argument opened, the walk, and everything read again behind it. -/
set_option maxRecDepth 100000 in
theorem lifted (os : Os) (started : os.Started) (H : Type) (enc : TypeId × Value → H) :
    ReturnsInHanded {} Try.checked os 7 .any (Rows.fnExactLargerFootSpec.pre6 enc Try.prog Try.f7 Rows.fnExactLargerFootRow.domain false) (Rows.fnExactLargerFootSpec.post enc Try.prog Try.f7 false true false false) := by
  refine returnsInHanded_of_change (C := Try.checked) own started (by kernel_rfl) Try.func7
    (ChangeSpec.witness6 (enc := enc) (C := Try.checked) false ⟨#[], #[.agg #[.int .i64 0, .int .i64 0, .int .i64 0, .int .i64 0], .agg #[.int .i64 0, .int .i64 0, .int .i64 0, .int .i64 0]], []⟩ 8 (by kernel_rfl) (by kernel_rfl) (by kernel_rfl) (by kernel_rfl)) ?_
  intro W base args ds gs before hval0 hW hcnd _
  have hval : ∀ (j : Nat) t v, Try.f7.params[j]? = some t → args[j]? = some v → Value.okWide Try.prog W .any base t v := hval0
  have hW' := hW
  obtain ⟨p, q, hA0, hV, rfl, hfz, hnd⟩ := hW
  have hA : DataW.TrodAll enc Try.prog W 0 (fun _ => true) true Try.f7.params.toList args.toList ds p := hA0
  rw [Try.params7] at hA hval
  obtain ⟨v0, vs0, d0, ds0, p0, q0, hargs, rfl, rfl, h0, r0⟩ := trodAll_cons hA
  obtain ⟨v1, vs1, d1, ds1, p1, q1, rfl, rfl, rfl, h1, r1⟩ := trodAll_cons r0
  obtain ⟨rfl, rfl, rfl⟩ := trodAll_nil r1
  obtain rfl : args = #[v0, v1] := by cases args; simp_all
  obtain ⟨rfl, rfl⟩ := trodVars_none hV
  have k0 := h0
  have lt0 : ∀ x ∈ p0, x.block < W.heap.size := by obtain ⟨m, hm⟩ := k0; exact DataW.trod_lt m _ _ _ hm
  have k1 := h1
  have lt1 : ∀ x ∈ p1, x.block < W.heap.size := by obtain ⟨m, hm⟩ := k1; exact DataW.trod_lt m _ _ _ hm
  obtain ⟨a0, b0, c0, d0, rfl, -, -, -, -⟩ := open_Foot (hval 0 30 v0 rfl rfl) h0
  obtain ⟨a1, b1, c1, d1, rfl, -, -, -, -⟩ := open_Foot (hval 1 30 v1 rfl rfl) h1
  clear hA0 hval0
  refine (walk a0 b0 c0 d0 a1 b1 c1 d1 W ).mono fun e W' ⟨he, bel⟩ => ?_
  subst he
  exact ⟨_, rfl, _, _, _, [], _, [], hW', trodAll_mk1 (shut_bool Try.underlying4 _), (trodAll_cons_mk (Below.trod laidOut (by kernel_rfl) (of_decide_eq_true (by kernel_rfl)) k0 bel lt0) (trodAll_cons_mk (Below.trod laidOut (by kernel_rfl) (of_decide_eq_true (by kernel_rfl)) k1 bel lt1) trodAll_mk0)), rfl, bel.frame _, fun h => by cases h⟩

theorem over : Rows.fnExactLargerFootRow.holds Try.pinned (OpenSpec.ofChange Rows.fnExactLargerFootSpec) :=
  OpenClaim.holds_of_wide 7 Try.f7 rfl rfl rfl rfl rfl rfl rfl ⟨rfl, rfl, rfl, rfl, rfl⟩ rfl rfl rfl rfl rfl (by kernel_rfl) Try.func7 (by kernel_rfl)
    (of_decide_eq_true (by kernel_rfl)) (by unfold Func.isWrapper; first | (rw [if_pos (by decide +kernel)]; kernel_rfl) | (rw [if_neg (by decide +kernel)]; exact ⟨rfl, rfl⟩))
    (fun os started H enc _ => lifted os started H enc)

theorem proved : Rows.FnExactLargerFootSaid := over
end Go.Proofs.Ytlmjchmbbmiocaa.lawLargerFoot
