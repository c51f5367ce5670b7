/-
  The law FnExactGradeBetween: the program's GradeBetween returns what the reference's returns; for all arguments, no condition.
-/
import Derived.Test.YtgkkfofjaealoaaOpen
import Derived.Test.YtgkkfofjaealoaaTo
import Derived.Test.YtgkkfofjaealoaaBetw
import Derived.ProofKit
import Derived.OpenShut
import Derived.ShutString
import Derived.ChangeOld
import Derived.Deep.RegionHeld3
import Derived.Deep.DeepCutAuto
namespace Go.Proofs.Ytgkkfofjaealoaa.lawGradeBetween
open Go.ChangeShapes Go.WideShapes Go.ChangeAt Go.RowKit
set_option linter.unusedVariables false

set_option maxRecDepth 100000 in
set_option maxHeartbeats 1600000 in
theorem walk (s0 : ByteArray) (a0 b0 c0 d0 e0 : Int) (s1 : ByteArray) (a1 b1 c1 d1 e1 : Int) (x2 : Int) (w : World) (hs0 : s0.size ≤ maxLen) (hs1 : s1.size ≤ maxLen) :
    Calls Try.prog 6 #[.agg #[.string s0, .int .i64 a0, .int .i64 b0, .int .i64 c0, .int .i64 d0, .int .i64 e0], .agg #[.string s1, .int .i64 a1, .int .i64 b1, .int .i64 c1, .int .i64 d1, .int .i64 e1], .int .i64 x2] w fun e w' => e = .returned (.bool true) ∧ Below w.heap.size w w' := by
  have hs9 := size_maxLen hs0
  by_cases hbig : 1048576 < s0.size
  · go_enter Try.func6, Try.ntmps6
    go_wp2_with fail
    refine (szLast_big _ _ _ _ _ _ _ _ (by omega) (by omega) (by omega) hs9).mono ?_
    rintro e w1 ⟨rfl, H1⟩
    obtain ⟨hc, hf⟩ := bcell H1
    clear hc hf
    go_wp2_with fail
    go_ret
    exact ⟨rfl, Bl.then (by go_grown) H1⟩
  have hs8 := size_maxLen hs1
  by_cases hbig2 : 1048576 < s0.size + s1.size
  · go_enter Try.func6, Try.ntmps6
    go_wp2_with fail
    refine (szLast_ok _ _ _ _ _ _ _ _ (by omega) (by omega)).mono ?_
    rintro e w1 ⟨rfl, H1⟩
    obtain ⟨hc, hf⟩ := bcell H1
    go_wp2_with fail
    refine (szLast_big _ _ _ _ _ _ _ _ (by omega) (by omega) (by omega) hs8).mono ?_
    rintro e w2 ⟨rfl, hb2⟩
    have H2 := Bl.then H1 hb2
    clear hc hf
    obtain ⟨hc, hf⟩ := bcell H2
    clear hc hf
    go_wp2_with fail
    go_ret
    exact ⟨rfl, Bl.then (by go_grown) H2⟩
  go_enter Try.func6, Try.ntmps6
  go_wp2_with fail
  refine (szLast_ok _ _ _ _ _ _ _ _ (by omega) (by omega)).mono ?_
  rintro e w1 ⟨rfl, H1⟩
  obtain ⟨hc, hf⟩ := bcell H1
  go_wp2_with fail
  refine (szLast_ok _ _ _ _ _ _ _ _ (by omega) (by omega)).mono ?_
  rintro e w2 ⟨rfl, hb2⟩
  have H2 := Bl.then H1 hb2
  clear hc hf
  obtain ⟨hc, hf⟩ := bcell H2
  have P0 := ((Blk.new w 31 #[.string s0, .int .i64 a0, .int .i64 b0, .int .i64 c0, .int .i64 d0, .int .i64 e0]).alloc _).below H2
  have P1 := (Blk.new1 w _ 31 #[.string s1, .int .i64 a1, .int .i64 b1, .int .i64 c1, .int .i64 d1, .int .i64 e1]).below H2
  have HW : Below w.heap.size w w2 := Bl.then (by go_grown) H2
  go_upto_region 8 with fail
  clear hc hf H1 H2
  go_cut [8, 9] (fun p v wx => ∃ g, p = .pointer (some ⟨g, 0, none⟩) ∧ v = .int .i64 (betwC s0 a0 b0 c0 d0 e0 s1 a1 b1 c1 d1 e1 x2) ∧ Blk wx g 46 #[.int .i64 (gNum (betwC s0 a0 b0 c0 d0 e0 s1 a1 b1 c1 d1 e1 x2) (rnd (100 * (a1 - a0)) x2)), .int .i64 (gNum (betwC s0 a0 b0 c0 d0 e0 s1 a1 b1 c1 d1 e1 x2) (rnd (100 * (b1 - b0)) x2)), .int .i64 (gNum (betwC s0 a0 b0 c0 d0 e0 s1 a1 b1 c1 d1 e1 x2) (rnd (100 * (c1 - c0)) x2)), .int .i64 (gNum (betwC s0 a0 b0 c0 d0 e0 s1 a1 b1 c1 d1 e1 x2) (rnd (100 * (d1 - d0)) x2)), .int .i64 (gNum (betwC s0 a0 b0 c0 d0 e0 s1 a1 b1 c1 d1 e1 x2) (rnd (100 * (e1 - e0)) x2))] ∧ Below w2.heap.size w2 wx)
  case first =>
    have qP0 := P0.cell
    have lP0 := P0.lt
    have qP1 := P1.cell
    have lP1 := P1.lt
    clear P0 P1 HW
    go_region_held3 (fun wz => Below w2.heap.size w2 wz ∧ ∀ b o, b < w2.heap.size → wz.cell? ⟨b, o, none⟩ = w2.cell? ⟨b, o, none⟩) ((refine old_of ?_; (try (repeat refine Below.setCell ?_ (by first | exact Nat.le_refl _ | omega | (dsimp only; omega)) _)); with_reducible first | assumption | exact Below.drew (Below.refl _ _) | exact Below.drew (Bl.alloc (Below.refl _ _) _) | exact Bl.alloc (by assumption) _)) (first | (go_at_call 24; (with_reducible refine (toLast_any _ _ _ _ _ _ _).mono ?_); rintro e w800 ⟨rfl, hb800⟩; have HZ := Bl.then (w := w2) (And.left (by assumption)) hb800; have hz := HZ.size; (with_reducible first | (have HB := (Blk.new _ _ _).drew.below hb800; have hB := HB.cell; have hF := HB.frozen) | (have HB := (Blk.new _ _ _).below hb800; have hB := HB.cell; have hF := HB.frozen) | (have HB := HB.below hb800; have hB := HB.cell; have hF := HB.frozen) | skip)) | (go_at_call 30; (with_reducible refine (sGradeBetween_any _ _ _ _ _ _ _ _ _ _ _ _ _ _ hs0 hs1).mono ?_); rintro e w801 ⟨rfl, hb801⟩; have HZ := Bl.then (w := w2) (And.left (by assumption)) hb801; have hz := HZ.size; (with_reducible first | (have HB := (Blk.new _ _ _).drew.below hb801; have hB := HB.cell; have hF := HB.frozen) | (have HB := (Blk.new _ _ _).below hb801; have hB := HB.cell; have hF := HB.frozen) | (have HB := HB.below hb801; have hB := HB.cell; have hF := HB.frozen) | skip)))
    all_goals
      go_wp2_with fail
      go_meet
      refine ⟨_, rfl, rfl, ?_, And.left (by assumption)⟩
      first | exact (((((HB.set 0 _).set 1 _).set 2 _).set 3 _).set 4 _) | exact Blk.new _ _ _
  case rest =>
  obtain ⟨g1, rfl, rfl, B1, HC1⟩ := hcut
  obtain ⟨wa, rfl⟩ : ∃ wa : World, wa = wc := ⟨_, rfl⟩
  have HW1 := Bl.then HW HC1
  clear HW
  have HW := HW1
  have R0 := P0.below HC1
  have R1 := P1.below HC1
  clear P0 P1 HC1 HW1
  go_upto_region 9 with fail
  go_cut [10, 11] (fun p v wx => ∃ g, p = .pointer (some ⟨g, 0, none⟩) ∧ v = .int .i64 (betwC s0 a0 b0 c0 d0 e0 s1 a1 b1 c1 d1 e1 x2) ∧ Blk wx g 46 #[.int .i64 (gNum (betwC s0 a0 b0 c0 d0 e0 s1 a1 b1 c1 d1 e1 x2) (rnd (100 * (a1 - a0)) x2)), .int .i64 (gNum (betwC s0 a0 b0 c0 d0 e0 s1 a1 b1 c1 d1 e1 x2) (rnd (100 * (b1 - b0)) x2)), .int .i64 (gNum (betwC s0 a0 b0 c0 d0 e0 s1 a1 b1 c1 d1 e1 x2) (rnd (100 * (c1 - c0)) x2)), .int .i64 (gNum (betwC s0 a0 b0 c0 d0 e0 s1 a1 b1 c1 d1 e1 x2) (rnd (100 * (d1 - d0)) x2)), .int .i64 (gNum (betwC s0 a0 b0 c0 d0 e0 s1 a1 b1 c1 d1 e1 x2) (rnd (100 * (e1 - e0)) x2))] ∧ Below wa.heap.size wa wx)
  case first =>
    have qR0 := R0.cell
    have lR0 := R0.lt
    have qR1 := R1.cell
    have lR1 := R1.lt
    have qB1 := B1.cell
    have lB1 := B1.lt
    clear R0 R1 B1 HW
    go_region_held3 (fun wz => Below wa.heap.size wa wz ∧ ∀ b o, b < wa.heap.size → wz.cell? ⟨b, o, none⟩ = wa.cell? ⟨b, o, none⟩) ((refine old_of ?_; (try (repeat refine Below.setCell ?_ (by first | exact Nat.le_refl _ | omega | (dsimp only; omega)) _)); with_reducible first | assumption | exact Below.drew (Below.refl _ _) | exact Below.drew (Bl.alloc (Below.refl _ _) _) | exact Bl.alloc (by assumption) _)) (first | (go_at_call 24; (with_reducible refine (toLast_any _ _ _ _ _ _ _).mono ?_); rintro e w800 ⟨rfl, hb800⟩; have HZ := Bl.then (w := wa) (And.left (by assumption)) hb800; have hz := HZ.size; (with_reducible first | (have HB := (Blk.new _ _ _).drew.below hb800; have hB := HB.cell; have hF := HB.frozen) | (have HB := (Blk.new _ _ _).below hb800; have hB := HB.cell; have hF := HB.frozen) | (have HB := HB.below hb800; have hB := HB.cell; have hF := HB.frozen) | skip)) | (go_at_call 31; (with_reducible refine (GradeBetween_any _ _ _ _ _ _ _ _ _ _ _ _ _ _ hs0 hs1).mono ?_); rintro e w801 ⟨rfl, hb801⟩; have HZ := Bl.then (w := wa) (And.left (by assumption)) hb801; have hz := HZ.size; (with_reducible first | (have HB := (Blk.new _ _ _).drew.below hb801; have hB := HB.cell; have hF := HB.frozen) | (have HB := (Blk.new _ _ _).below hb801; have hB := HB.cell; have hF := HB.frozen) | (have HB := HB.below hb801; have hB := HB.cell; have hF := HB.frozen) | skip)))
    all_goals
      go_wp2_with fail
      go_meet
      refine ⟨_, rfl, rfl, ?_, And.left (by assumption)⟩
      first | exact (((((HB.set 0 _).set 1 _).set 2 _).set 3 _).set 4 _) | exact Blk.new _ _ _
  case rest =>
  obtain ⟨g2, rfl, rfl, B2, HC2⟩ := hcut
  have B3 := B1.below HC2
  have HW2 := Bl.then HW HC2
  clear HW HC2 R0 R1 B1
  have k1 := B3.cell
  have k2 := B2.cell
  go_wp2_with fail
  refine (eqGrade_same _ _ _ _ _ _).mono ?_
  rintro e w9 ⟨rfl, hb9⟩
  go_wp2_with fail
  go_ret
  exact ⟨rfl, Bl.then HW2 hb9⟩

/-! ### The row: the argument opened, the walk, and everything read again behind it. -/
set_option maxRecDepth 100000 in
theorem lifted (os : Os) (started : os.Started) (H : Type) (enc : TypeId × Value → H) :
    ReturnsInHanded {} Try.checked os 6 .any (Rows.fnExactGradeBetweenSpec.pre6 enc Try.prog Try.f6 Rows.fnExactGradeBetweenRow.domain false) (Rows.fnExactGradeBetweenSpec.post enc Try.prog Try.f6 false true false false) := by
  refine returnsInHanded_of_change (C := Try.checked) own started (by kernel_rfl) Try.func6
    (ChangeSpec.witness6 (enc := enc) (C := Try.checked) false ⟨#[], #[.agg #[.string ByteArray.empty, .int .i64 0, .int .i64 0, .int .i64 0, .int .i64 0, .int .i64 0], .agg #[.string ByteArray.empty, .int .i64 0, .int .i64 0, .int .i64 0, .int .i64 0, .int .i64 0], .int .i64 0], []⟩ 8 (by kernel_rfl) (by kernel_rfl) (by kernel_rfl) (by kernel_rfl)) ?_
  intro W base args ds gs before hval0 hW hcnd _
  have hval : ∀ (j : Nat) t v, Try.f6.params[j]? = some t → args[j]? = some v → Value.okWide Try.prog W .any base t v := hval0
  have hW' := hW
  obtain ⟨p, q, hA0, hV, rfl, hfz, hnd⟩ := hW
  have hA : DataW.TrodAll enc Try.prog W 0 (fun _ => true) true Try.f6.params.toList args.toList ds p := hA0
  rw [Try.params6] at hA hval
  obtain ⟨v0, vs0, d0, ds0, p0, q0, hargs, rfl, rfl, h0, r0⟩ := trodAll_cons hA
  obtain ⟨v1, vs1, d1, ds1, p1, q1, rfl, rfl, rfl, h1, r1⟩ := trodAll_cons r0
  obtain ⟨v2, vs2, d2, ds2, p2, q2, rfl, rfl, rfl, h2, r2⟩ := trodAll_cons r1
  obtain ⟨rfl, rfl, rfl⟩ := trodAll_nil r2
  obtain rfl : args = #[v0, v1, v2] := by cases args; simp_all
  obtain ⟨rfl, rfl⟩ := trodVars_none hV
  have k0 := h0
  have lt0 : ∀ x ∈ p0, x.block < W.heap.size := by obtain ⟨m, hm⟩ := k0; exact DataW.trod_lt m _ _ _ hm
  have k1 := h1
  have lt1 : ∀ x ∈ p1, x.block < W.heap.size := by obtain ⟨m, hm⟩ := k1; exact DataW.trod_lt m _ _ _ hm
  have k2 := h2
  have lt2 : ∀ x ∈ p2, x.block < W.heap.size := by obtain ⟨m, hm⟩ := k2; exact DataW.trod_lt m _ _ _ hm
  obtain ⟨s0, a0, b0, c0, d0, e0, rfl, hs0, -, -, -, -, -⟩ := open_Last (hval 0 31 v0 rfl rfl) h0
  obtain ⟨s1, a1, b1, c1, d1, e1, rfl, hs1, -, -, -, -, -⟩ := open_Last (hval 1 31 v1 rfl rfl) h1
  obtain ⟨x2, rfl, rfl, rfl, wf2⟩ := open_int Try.underlying2 (hval 2 2 v2 rfl rfl) h2
  clear hA0 hval0
  refine (walk s0 a0 b0 c0 d0 e0 s1 a1 b1 c1 d1 e1 x2 W hs0 hs1).mono fun e W' ⟨he, bel⟩ => ?_
  subst he
  exact ⟨_, rfl, _, _, _, [], _, [], hW', trodAll_mk1 (shut_bool Try.underlying4 _), (trodAll_cons_mk (Below.trod laidOut (by kernel_rfl) (of_decide_eq_true (by kernel_rfl)) k0 bel lt0) (trodAll_cons_mk (Below.trod laidOut (by kernel_rfl) (of_decide_eq_true (by kernel_rfl)) k1 bel lt1) (trodAll_cons_mk (Below.trod laidOut (by kernel_rfl) (of_decide_eq_true (by kernel_rfl)) k2 bel lt2) trodAll_mk0))), rfl, bel.frame _, fun h => by cases h⟩

theorem over : Rows.fnExactGradeBetweenRow.holds Try.pinned (OpenSpec.ofChange Rows.fnExactGradeBetweenSpec) :=
  OpenClaim.holds_of_wide 6 Try.f6 rfl rfl rfl rfl rfl rfl rfl ⟨rfl, rfl, rfl, rfl, rfl⟩ rfl rfl rfl rfl rfl (by kernel_rfl) Try.func6 (by kernel_rfl)
    (of_decide_eq_true (by kernel_rfl)) (by unfold Func.isWrapper; first | (rw [if_pos (by decide +kernel)]; kernel_rfl) | (rw [if_neg (by decide +kernel)]; exact ⟨rfl, rfl⟩))
    (fun os started H enc _ => lifted os started H enc)

theorem proved : Rows.FnExactGradeBetweenSaid := over
end Go.Proofs.Ytgkkfofjaealoaa.lawGradeBetween
