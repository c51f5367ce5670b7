/-
  The law FnExactLengthOfHalf: the program's LengthOfHalf returns what the reference's returns; for all arguments, no condition.
-/
import Derived.Test.YtpmdgbdeibeoaaaOpen
import Derived.Test.YtpmdgbdeibeoaaaTo
import Derived.Test.YtpmdgbdeibeoaaaBlk
import Derived.Test.YtpmdgbdeibeoaaaHalf
import Derived.ProofKit
import Derived.OpenShut
import Derived.ShutString
import Derived.ChangeOld
namespace Go.Proofs.Ytpmdgbdeibeoaaa.lawLengthOfHalf
open Go.ChangeShapes Go.WideShapes Go.ChangeAt Go.RowKit
set_option linter.unusedVariables false

set_option maxHeartbeats 800000 in
theorem walk (s0 : ByteArray) (a0 b0 c0 : Int) (x1 : Int) (w : World) (hs0 : s0.size ≤ maxLen) :
    Calls Try.prog 6 #[.agg #[.string s0, .int .i64 a0, .int .i64 b0, .int .i64 c0], .int .i64 x1] w fun e w' => e = .returned (.bool true) ∧ Below w.heap.size w w' := by
  have hs9 := size_maxLen hs0
  by_cases hbig : 1048576 < s0.size
  · go_enter Try.func6, Try.ntmps6
    go_wp2_with fail
    refine (szScale_big _ _ _ _ _ _ (by omega) (by omega) (by omega) hs9).mono ?_
    rintro e w1 ⟨rfl, H1⟩
    obtain ⟨hc, hf⟩ := bcell H1
    clear hc hf
    go_wp2_with fail
    go_ret
    exact ⟨rfl, Bl.then (by go_grown) H1⟩
  go_enter Try.func6, Try.ntmps6
  go_wp2_with fail
  refine (szScale_ok _ _ _ _ _ _ (by omega) (by omega)).mono ?_
  rintro e w1 ⟨rfl, hb1⟩
  have H1 := Bl.then (Bl.alloc (Below.refl _ _) _) hb1
  have B1a_1 : Blk w1 (w.heap.size) 23 #[.string s0, .int .i64 a0, .int .i64 b0, .int .i64 c0] := ((Blk.new _ _ _)).below hb1
  have q1a_0 : w1.cell? ⟨w.heap.size, 0, none⟩ = some (.string s0) := B1a_1.cell 0
  have q1a_1 : w1.cell? ⟨w.heap.size, 1, none⟩ = some (.int .i64 a0) := B1a_1.cell 1
  have q1a_2 : w1.cell? ⟨w.heap.size, 2, none⟩ = some (.int .i64 b0) := B1a_1.cell 2
  have q1a_3 : w1.cell? ⟨w.heap.size, 3, none⟩ = some (.int .i64 c0) := B1a_1.cell 3
  have z1a : w.heap.size < w1.heap.size := B1a_1.lt
  go_wp2_with fail
  refine (toScale_any _ _ _ _ _).mono ?_
  rintro e w2 ⟨rfl, hb2⟩
  have H2 := Bl.then H1 hb2
  clear q1a_0
  clear q1a_1
  clear q1a_2
  clear q1a_3
  clear z1a
  have B1a_2 := (B1a_1).below hb2
  have q1a_0 : w2.cell? ⟨w.heap.size, 0, none⟩ = some (.string s0) := B1a_2.cell 0
  have q1a_1 : w2.cell? ⟨w.heap.size, 1, none⟩ = some (.int .i64 a0) := B1a_2.cell 1
  have q1a_2 : w2.cell? ⟨w.heap.size, 2, none⟩ = some (.int .i64 b0) := B1a_2.cell 2
  have q1a_3 : w2.cell? ⟨w.heap.size, 3, none⟩ = some (.int .i64 c0) := B1a_2.cell 3
  have z1a : w.heap.size < w2.heap.size := B1a_2.lt
  go_wp2_with fail
  refine (sLengthOfHalf_any _ _ _ _ _ _ hs0).mono ?_
  rintro e w3 ⟨rfl, hb3⟩
  have H3 := Bl.then H2 hb3
  clear q1a_0
  clear q1a_1
  clear q1a_2
  clear q1a_3
  clear z1a
  have B1a_3 := (B1a_2).below hb3
  have q1a_0 : w3.cell? ⟨w.heap.size, 0, none⟩ = some (.string s0) := B1a_3.cell 0
  have q1a_1 : w3.cell? ⟨w.heap.size, 1, none⟩ = some (.int .i64 a0) := B1a_3.cell 1
  have q1a_2 : w3.cell? ⟨w.heap.size, 2, none⟩ = some (.int .i64 b0) := B1a_3.cell 2
  have q1a_3 : w3.cell? ⟨w.heap.size, 3, none⟩ = some (.int .i64 c0) := B1a_3.cell 3
  have z1a : w.heap.size < w3.heap.size := B1a_3.lt
  go_wp2_with fail
  refine (toScale_any _ _ _ _ _).mono ?_
  rintro e w4 ⟨rfl, hb4⟩
  have H4 := Bl.then (Bl.alloc H3 _) hb4
  clear q1a_0
  clear q1a_1
  clear q1a_2
  clear q1a_3
  clear z1a
  have B1a_4 := ((B1a_3.alloc _)).below hb4
  have B4a_4 : Blk w4 (w3.heap.size) 33 #[.int .i64 (lenHalf s0 a0 b0 c0 x1).1, .int .i64 (lenHalf s0 a0 b0 c0 x1).2.1] := ((Blk.new _ _ _)).below hb4
  have q1a_0 : w4.cell? ⟨w.heap.size, 0, none⟩ = some (.string s0) := B1a_4.cell 0
  have q1a_1 : w4.cell? ⟨w.heap.size, 1, none⟩ = some (.int .i64 a0) := B1a_4.cell 1
  have q1a_2 : w4.cell? ⟨w.heap.size, 2, none⟩ = some (.int .i64 b0) := B1a_4.cell 2
  have q1a_3 : w4.cell? ⟨w.heap.size, 3, none⟩ = some (.int .i64 c0) := B1a_4.cell 3
  have z1a : w.heap.size < w4.heap.size := B1a_4.lt
  have q4a_0 : w4.cell? ⟨w3.heap.size, 0, none⟩ = some (.int .i64 (lenHalf s0 a0 b0 c0 x1).1) := B4a_4.cell 0
  have q4a_1 : w4.cell? ⟨w3.heap.size, 1, none⟩ = some (.int .i64 (lenHalf s0 a0 b0 c0 x1).2.1) := B4a_4.cell 1
  have z4a : w3.heap.size < w4.heap.size := B4a_4.lt
  go_wp2_with fail
  refine (LengthOfHalf_any _ _ _ _ _ _ hs0).mono ?_
  rintro e w5 ⟨rfl, hb5⟩
  have H5 := Bl.then H4 hb5
  clear q1a_0
  clear q1a_1
  clear q1a_2
  clear q1a_3
  clear z1a
  clear q4a_0
  clear q4a_1
  clear z4a
  have B1a_5 := (B1a_4).below hb5
  have B4a_5 := (B4a_4).below hb5
  have q1a_0 : w5.cell? ⟨w.heap.size, 0, none⟩ = some (.string s0) := B1a_5.cell 0
  have q1a_1 : w5.cell? ⟨w.heap.size, 1, none⟩ = some (.int .i64 a0) := B1a_5.cell 1
  have q1a_2 : w5.cell? ⟨w.heap.size, 2, none⟩ = some (.int .i64 b0) := B1a_5.cell 2
  have q1a_3 : w5.cell? ⟨w.heap.size, 3, none⟩ = some (.int .i64 c0) := B1a_5.cell 3
  have z1a : w.heap.size < w5.heap.size := B1a_5.lt
  have q4a_0 : w5.cell? ⟨w3.heap.size, 0, none⟩ = some (.int .i64 (lenHalf s0 a0 b0 c0 x1).1) := B4a_5.cell 0
  have q4a_1 : w5.cell? ⟨w3.heap.size, 1, none⟩ = some (.int .i64 (lenHalf s0 a0 b0 c0 x1).2.1) := B4a_5.cell 1
  have z4a : w3.heap.size < w5.heap.size := B4a_5.lt
  go_wp2_with fail
  refine (eqFraction_same _ _ _).mono ?_
  rintro e w6 ⟨rfl, hb6⟩
  have H6 := Bl.then (Bl.alloc H5 _) hb6
  clear q1a_0
  clear q1a_1
  clear q1a_2
  clear q1a_3
  clear z1a
  clear q4a_0
  clear q4a_1
  clear z4a
  have B1a_6 := ((B1a_5.alloc _)).below hb6
  have B4a_6 := ((B4a_5.alloc _)).below hb6
  have B6a_6 : Blk w6 (w5.heap.size) 33 #[.int .i64 (lenHalf s0 a0 b0 c0 x1).1, .int .i64 (lenHalf s0 a0 b0 c0 x1).2.1] := ((Blk.new _ _ _)).below hb6
  have q1a_0 : w6.cell? ⟨w.heap.size, 0, none⟩ = some (.string s0) := B1a_6.cell 0
  have q1a_1 : w6.cell? ⟨w.heap.size, 1, none⟩ = some (.int .i64 a0) := B1a_6.cell 1
  have q1a_2 : w6.cell? ⟨w.heap.size, 2, none⟩ = some (.int .i64 b0) := B1a_6.cell 2
  have q1a_3 : w6.cell? ⟨w.heap.size, 3, none⟩ = some (.int .i64 c0) := B1a_6.cell 3
  have z1a : w.heap.size < w6.heap.size := B1a_6.lt
  have q4a_0 : w6.cell? ⟨w3.heap.size, 0, none⟩ = some (.int .i64 (lenHalf s0 a0 b0 c0 x1).1) := B4a_6.cell 0
  have q4a_1 : w6.cell? ⟨w3.heap.size, 1, none⟩ = some (.int .i64 (lenHalf s0 a0 b0 c0 x1).2.1) := B4a_6.cell 1
  have z4a : w3.heap.size < w6.heap.size := B4a_6.lt
  have q6a_0 : w6.cell? ⟨w5.heap.size, 0, none⟩ = some (.int .i64 (lenHalf s0 a0 b0 c0 x1).1) := B6a_6.cell 0
  have q6a_1 : w6.cell? ⟨w5.heap.size, 1, none⟩ = some (.int .i64 (lenHalf s0 a0 b0 c0 x1).2.1) := B6a_6.cell 1
  have z6a : w5.heap.size < w6.heap.size := B6a_6.lt
  clear q1a_0
  clear q1a_1
  clear q1a_2
  clear q1a_3
  clear z1a
  clear q4a_0
  clear q4a_1
  clear z4a
  clear q6a_0
  clear q6a_1
  clear z6a
  go_wp2_with fail
  go_ret
  exact ⟨rfl, Bl.then (by go_grown) H6⟩

/-! ### The row: the argument opened, the walk, and everything read again behind it. -/
set_option maxRecDepth 100000 in
theorem lifted (os : Os) (started : os.Started) (H : Type) (enc : TypeId × Value → H) :
    ReturnsInHanded {} Try.checked os 6 .any (Rows.fnExactLengthOfHalfSpec.pre6 enc Try.prog Try.f6 Rows.fnExactLengthOfHalfRow.domain false) (Rows.fnExactLengthOfHalfSpec.post enc Try.prog Try.f6 false true false false) := by
  refine returnsInHanded_of_change (C := Try.checked) own started (by kernel_rfl) Try.func6
    (ChangeSpec.witness6 (enc := enc) (C := Try.checked) false ⟨#[], #[.agg #[.string ByteArray.empty, .int .i64 0, .int .i64 0, .int .i64 0], .int .i64 0], []⟩ 8 (by kernel_rfl) (by kernel_rfl) (by kernel_rfl) (by kernel_rfl)) ?_
  intro W base args ds gs before hval0 hW hcnd _
  have hval : ∀ (j : Nat) t v, Try.f6.params[j]? = some t → args[j]? = some v → Value.okWide Try.prog W .any base t v := hval0
  have hW' := hW
  obtain ⟨p, q, hA0, hV, rfl, hfz, hnd⟩ := hW
  have hA : DataW.TrodAll enc Try.prog W 0 (fun _ => true) true Try.f6.params.toList args.toList ds p := hA0
  rw [Try.params6] at hA hval
  obtain ⟨v0, vs0, d0, ds0, p0, q0, hargs, rfl, rfl, h0, r0⟩ := trodAll_cons hA
  obtain ⟨v1, vs1, d1, ds1, p1, q1, rfl, rfl, rfl, h1, r1⟩ := trodAll_cons r0
  obtain ⟨rfl, rfl, rfl⟩ := trodAll_nil r1
  obtain rfl : args = #[v0, v1] := by cases args; simp_all
  obtain ⟨rfl, rfl⟩ := trodVars_none hV
  have k0 := h0
  have lt0 : ∀ x ∈ p0, x.block < W.heap.size := by obtain ⟨m, hm⟩ := k0; exact DataW.trod_lt m _ _ _ hm
  have k1 := h1
  have lt1 : ∀ x ∈ p1, x.block < W.heap.size := by obtain ⟨m, hm⟩ := k1; exact DataW.trod_lt m _ _ _ hm
  obtain ⟨s0, a0, b0, c0, rfl, hs0, -, -, -⟩ := open_Scale (hval 0 23 v0 rfl rfl) h0
  obtain ⟨x1, rfl, rfl, rfl, wf1⟩ := open_int Try.underlying2 (hval 1 2 v1 rfl rfl) h1
  clear hA0 hval0
  refine (walk s0 a0 b0 c0 x1 W hs0).mono fun e W' ⟨he, bel⟩ => ?_
  subst he
  exact ⟨_, rfl, _, _, _, [], _, [], hW', trodAll_mk1 (shut_bool Try.underlying4 _), (trodAll_cons_mk (Below.trod laidOut (by kernel_rfl) (of_decide_eq_true (by kernel_rfl)) k0 bel lt0) (trodAll_cons_mk (Below.trod laidOut (by kernel_rfl) (of_decide_eq_true (by kernel_rfl)) k1 bel lt1) trodAll_mk0)), rfl, bel.frame _, fun h => by cases h⟩

theorem over : Rows.fnExactLengthOfHalfRow.holds Try.pinned (OpenSpec.ofChange Rows.fnExactLengthOfHalfSpec) :=
  OpenClaim.holds_of_wide 6 Try.f6 rfl rfl rfl rfl rfl rfl rfl ⟨rfl, rfl, rfl, rfl, rfl⟩ rfl rfl rfl rfl rfl (by kernel_rfl) Try.func6 (by kernel_rfl)
    (of_decide_eq_true (by kernel_rfl)) (by unfold Func.isWrapper; first | (rw [if_pos (by decide +kernel)]; kernel_rfl) | (rw [if_neg (by decide +kernel)]; exact ⟨rfl, rfl⟩))
    (fun os started H enc _ => lifted os started H enc)

theorem proved : Rows.FnExactLengthOfHalfSaid := over
end Go.Proofs.Ytpmdgbdeibeoaaa.lawLengthOfHalf
