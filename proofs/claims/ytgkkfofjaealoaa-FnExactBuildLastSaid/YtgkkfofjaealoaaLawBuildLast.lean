/-
  The law FnExactBuildLast: the program's BuildLast returns what the reference's returns; for all arguments, no condition.
-/
import Derived.Test.YtgkkfofjaealoaaOpen
import Derived.Test.YtgkkfofjaealoaaTo
import Derived.Test.YtgkkfofjaealoaaBuildL
import Derived.ProofKit
import Derived.OpenShut
import Derived.ShutString
import Derived.ChangeOld
import Derived.Deep.RegionHeld3
namespace Go.Proofs.Ytgkkfofjaealoaa.lawBuildLast
open Go.ChangeShapes Go.WideShapes Go.ChangeAt Go.RowKit
set_option linter.unusedVariables false

set_option maxRecDepth 100000 in
set_option maxHeartbeats 1600000 in
theorem walk (s0 : ByteArray) (a0 b0 c0 d0 e0 : Int) (x1 : Int) (A2 : Option Addr) (n2 m2 : Nat) (z2 : List Int) (w : World) (hs0 : s0.size ≤ maxLen) (hr2 : Rd w 1 A2 n2 (ints z2)) (hn2 : n2 ≤ 9223372036854775807) :
    Calls Try.prog 10 #[.agg #[.string s0, .int .i64 a0, .int .i64 b0, .int .i64 c0, .int .i64 d0, .int .i64 e0], .int .i64 x1, .slice A2 n2 m2] w fun e w' => e = .returned (.bool true) ∧ Below w.heap.size w w' := by
  by_cases hbig2 : 1048576 < n2
  · go_enter Try.func10, Try.ntmps10
    go_wp2_with fail
    go_ret
    refine ⟨rfl, ?_⟩
    go_grown
  have hs2 : n2 ≤ 1048576 := by omega
  have hs9 := size_maxLen hs0
  by_cases hbig : 1048576 < s0.size
  · go_enter Try.func10, Try.ntmps10
    go_wp2_with fail
    refine (szLast_big _ _ _ _ _ _ _ _ (by omega) (by omega) (by omega) hs9).mono ?_
    rintro e w1 ⟨rfl, H1⟩
    obtain ⟨hc, hf⟩ := bcell H1
    clear hc hf
    go_wp2_with fail
    go_ret
    exact ⟨rfl, Bl.then (by go_grown) H1⟩
  go_enter Try.func10, Try.ntmps10
  go_wp2_with fail
  refine (szLast_ok _ _ _ _ _ _ _ _ (by omega) (by omega)).mono ?_
  rintro e w1 ⟨rfl, H1⟩
  have P0 := (Blk.new w 31 #[.string s0, .int .i64 a0, .int .i64 b0, .int .i64 c0, .int .i64 d0, .int .i64 e0]).below H1
  have HW1 : Below w.heap.size w w1 := Bl.then (by go_grown) H1
  have q0 := P0.cell
  clear H1
  go_wp2_with fail
  refine (toLast_any _ _ _ _ _ _ _).mono ?_
  rintro e w2 ⟨rfl, hb2⟩
  have HW2 := Bl.then HW1 hb2
  go_wp2_with fail
  refine (toInt64S_any _ _ _ _ _ (hr2.below HW2) hs2).mono ?_
  rintro e w3 ⟨A3, c3, rfl, o3, hb3⟩
  have HW3 := Bl.then HW2 hb3
  go_wp2_with fail
  refine (sBuildLast_any _ _ _ _ _ _ _ _ _ _ _ _ hs0 (Rd.of_own o3) hs2).mono ?_
  rintro e w4 ⟨rfl, hb4⟩
  have HW4 := Bl.then HW3 hb4
  have P4 := (((P0.below hb2).below hb3).below hb4).alloc (.cells #[.string (gStr (buildC s0 a0 b0 c0 d0 e0 x1 z2) s0), .int .i64 (gNum (buildC s0 a0 b0 c0 d0 e0 x1 z2) a0), .int .i64 (gNum (buildC s0 a0 b0 c0 d0 e0 x1 z2) (bAt 1 x1 z2 b0)), .int .i64 (gNum (buildC s0 a0 b0 c0 d0 e0 x1 z2) (bAt 2 x1 z2 c0)), .int .i64 (gNum (buildC s0 a0 b0 c0 d0 e0 x1 z2) (bAt 3 x1 z2 d0)), .int .i64 (gNum (buildC s0 a0 b0 c0 d0 e0 x1 z2) e0)] 38)
  have B4 := Blk.new w4 38 #[.string (gStr (buildC s0 a0 b0 c0 d0 e0 x1 z2) s0), .int .i64 (gNum (buildC s0 a0 b0 c0 d0 e0 x1 z2) a0), .int .i64 (gNum (buildC s0 a0 b0 c0 d0 e0 x1 z2) (bAt 1 x1 z2 b0)), .int .i64 (gNum (buildC s0 a0 b0 c0 d0 e0 x1 z2) (bAt 2 x1 z2 c0)), .int .i64 (gNum (buildC s0 a0 b0 c0 d0 e0 x1 z2) (bAt 3 x1 z2 d0)), .int .i64 (gNum (buildC s0 a0 b0 c0 d0 e0 x1 z2) e0)]
  have HW5 := Bl.alloc HW4 (.cells #[.string (gStr (buildC s0 a0 b0 c0 d0 e0 x1 z2) s0), .int .i64 (gNum (buildC s0 a0 b0 c0 d0 e0 x1 z2) a0), .int .i64 (gNum (buildC s0 a0 b0 c0 d0 e0 x1 z2) (bAt 1 x1 z2 b0)), .int .i64 (gNum (buildC s0 a0 b0 c0 d0 e0 x1 z2) (bAt 2 x1 z2 c0)), .int .i64 (gNum (buildC s0 a0 b0 c0 d0 e0 x1 z2) (bAt 3 x1 z2 d0)), .int .i64 (gNum (buildC s0 a0 b0 c0 d0 e0 x1 z2) e0)] 38)
  clear q0 P0 o3
  go_wp2_with fail
  refine (toInt64S_any _ _ _ _ _ (hr2.below HW5) hs2).mono ?_
  rintro e w5 ⟨A5, c5, rfl, o5, hb5⟩
  have HW6 := Bl.then HW5 hb5
  have P5 := P4.below hb5
  have B5 := B4.below hb5
  have RX := Rd.of_own o5
  have q5 := P5.cell
  clear P4 B4
  go_wp2_with fail
  refine (toLast_any _ _ _ _ _ _ _).mono ?_
  rintro e w6 ⟨rfl, hb6⟩
  have HW7 := Bl.then HW6 hb6
  clear q5
  go_wp2_with fail
  refine (BuildLast_any _ _ _ _ _ _ _ _ _ _ _ _ hs0 (RX.below hb6) hs2).mono ?_
  rintro e w7 ⟨rfl, hb7⟩
  have HW8 := Bl.then HW7 hb7
  have B7 := ((B5.below hb6).below hb7).alloc (.cells #[.string (gStr (buildC s0 a0 b0 c0 d0 e0 x1 z2) s0), .int .i64 (gNum (buildC s0 a0 b0 c0 d0 e0 x1 z2) a0), .int .i64 (gNum (buildC s0 a0 b0 c0 d0 e0 x1 z2) (bAt 1 x1 z2 b0)), .int .i64 (gNum (buildC s0 a0 b0 c0 d0 e0 x1 z2) (bAt 2 x1 z2 c0)), .int .i64 (gNum (buildC s0 a0 b0 c0 d0 e0 x1 z2) (bAt 3 x1 z2 d0)), .int .i64 (gNum (buildC s0 a0 b0 c0 d0 e0 x1 z2) e0)] 38)
  have k1 := B7.cell
  have l1 := B7.lt
  have HW9 := Bl.alloc HW8 (.cells #[.string (gStr (buildC s0 a0 b0 c0 d0 e0 x1 z2) s0), .int .i64 (gNum (buildC s0 a0 b0 c0 d0 e0 x1 z2) a0), .int .i64 (gNum (buildC s0 a0 b0 c0 d0 e0 x1 z2) (bAt 1 x1 z2 b0)), .int .i64 (gNum (buildC s0 a0 b0 c0 d0 e0 x1 z2) (bAt 2 x1 z2 c0)), .int .i64 (gNum (buildC s0 a0 b0 c0 d0 e0 x1 z2) (bAt 3 x1 z2 d0)), .int .i64 (gNum (buildC s0 a0 b0 c0 d0 e0 x1 z2) e0)] 38)
  have RY := ((RX.below hb6).below hb7).alloc (.cells #[.string (gStr (buildC s0 a0 b0 c0 d0 e0 x1 z2) s0), .int .i64 (gNum (buildC s0 a0 b0 c0 d0 e0 x1 z2) a0), .int .i64 (gNum (buildC s0 a0 b0 c0 d0 e0 x1 z2) (bAt 1 x1 z2 b0)), .int .i64 (gNum (buildC s0 a0 b0 c0 d0 e0 x1 z2) (bAt 2 x1 z2 c0)), .int .i64 (gNum (buildC s0 a0 b0 c0 d0 e0 x1 z2) (bAt 3 x1 z2 d0)), .int .i64 (gNum (buildC s0 a0 b0 c0 d0 e0 x1 z2) e0)] 38)
  go_wp2_with fail
  refine (eqLast_same _ _ _ _ _ _ _).mono ?_
  rintro e w8 ⟨rfl, hb8⟩
  have HW10 := Bl.then HW9 hb8
  clear k1 l1
  go_wp2_with fail
  refine (toInt64S_any _ _ _ _ _ (hr2.below HW10) hs2).mono ?_
  rintro e w9 ⟨A6, c6, rfl, o6, hb9⟩
  go_wp2_with fail
  refine (eqInt64S_same _ _ _ _ _ _ _ ((RY.below hb8).below hb9) (Rd.of_own o6) (by omega)).mono ?_
  rintro e w10 ⟨rfl, hb10⟩
  go_wp2_with fail
  go_ret
  exact ⟨rfl, Bl.then (Bl.then HW10 hb9) hb10⟩

/-! ### The row: the argument opened, the walk, and everything read again behind it. -/
set_option maxRecDepth 100000 in
theorem lifted (os : Os) (started : os.Started) (H : Type) (enc : TypeId × Value → H) :
    ReturnsInHanded {} Try.checked os 10 .any (Rows.fnExactBuildLastSpec.pre6 enc Try.prog Try.f10 Rows.fnExactBuildLastRow.domain false) (Rows.fnExactBuildLastSpec.post enc Try.prog Try.f10 false true false false) := by
  refine returnsInHanded_of_change (C := Try.checked) own started (by kernel_rfl) Try.func10
    (ChangeSpec.witness6 (enc := enc) (C := Try.checked) false ⟨#[], #[.agg #[.string ByteArray.empty, .int .i64 0, .int .i64 0, .int .i64 0, .int .i64 0, .int .i64 0], .int .i64 0, .slice none 0 0], []⟩ 8 (by kernel_rfl) (by kernel_rfl) (by kernel_rfl) (by kernel_rfl)) ?_
  intro W base args ds gs before hval0 hW hcnd _
  have hval : ∀ (j : Nat) t v, Try.f10.params[j]? = some t → args[j]? = some v → Value.okWide Try.prog W .any base t v := hval0
  have hW' := hW
  obtain ⟨p, q, hA0, hV, rfl, hfz, hnd⟩ := hW
  have hA : DataW.TrodAll enc Try.prog W 0 (fun _ => true) true Try.f10.params.toList args.toList ds p := hA0
  rw [Try.params10] at hA hval
  obtain ⟨v0, vs0, d0, ds0, p0, q0, hargs, rfl, rfl, h0, r0⟩ := trodAll_cons hA
  obtain ⟨v1, vs1, d1, ds1, p1, q1, rfl, rfl, rfl, h1, r1⟩ := trodAll_cons r0
  obtain ⟨v2, vs2, d2, ds2, p2, q2, rfl, rfl, rfl, h2, r2⟩ := trodAll_cons r1
  obtain ⟨rfl, rfl, rfl⟩ := trodAll_nil r2
  obtain rfl : args = #[v0, v1, v2] := by cases args; simp_all
  obtain ⟨rfl, rfl⟩ := trodVars_none hV
  have k0 := h0
  have lt0 : ∀ x ∈ p0, x.block < W.heap.size := by obtain ⟨m, hm⟩ := k0; exact DataW.trod_lt m _ _ _ hm
  have k1 := h1
  have lt1 : ∀ x ∈ p1, x.block < W.heap.size := by obtain ⟨m, hm⟩ := k1; exact DataW.trod_lt m _ _ _ hm
  have k2 := h2
  have lt2 : ∀ x ∈ p2, x.block < W.heap.size := by obtain ⟨m, hm⟩ := k2; exact DataW.trod_lt m _ _ _ hm
  obtain ⟨s0, a0, b0, c0, d0, e0, rfl, hs0, -, -, -, -, -⟩ := open_Last (hval 0 31 v0 rfl rfl) h0
  obtain ⟨x1, rfl, rfl, rfl, wf1⟩ := open_int Try.underlying2 (hval 1 2 v1 rfl rfl) h1
  obtain ⟨A2, n2, m2, rfl⟩ := okWide_slice Try.underlying35 (hval 2 35 v2 rfl rfl)
  obtain ⟨z2, hr2, hn2, -⟩ := open_Ints h2
  clear hA0 hval0
  refine (walk s0 a0 b0 c0 d0 e0 x1 A2 n2 m2 z2 W hs0 hr2 hn2).mono fun e W' ⟨he, bel⟩ => ?_
  subst he
  exact ⟨_, rfl, _, _, _, [], _, [], hW', trodAll_mk1 (shut_bool Try.underlying4 _), (trodAll_cons_mk (Below.trod laidOut (by kernel_rfl) (of_decide_eq_true (by kernel_rfl)) k0 bel lt0) (trodAll_cons_mk (Below.trod laidOut (by kernel_rfl) (of_decide_eq_true (by kernel_rfl)) k1 bel lt1) (trodAll_cons_mk (Below.trod laidOut (by kernel_rfl) (of_decide_eq_true (by kernel_rfl)) k2 bel lt2) trodAll_mk0))), rfl, bel.frame _, fun h => by cases h⟩

theorem over : Rows.fnExactBuildLastRow.holds Try.pinned (OpenSpec.ofChange Rows.fnExactBuildLastSpec) :=
  OpenClaim.holds_of_wide 10 Try.f10 rfl rfl rfl rfl rfl rfl rfl ⟨rfl, rfl, rfl, rfl, rfl⟩ rfl rfl rfl rfl rfl (by kernel_rfl) Try.func10 (by kernel_rfl)
    (of_decide_eq_true (by kernel_rfl)) (by unfold Func.isWrapper; first | (rw [if_pos (by decide +kernel)]; kernel_rfl) | (rw [if_neg (by decide +kernel)]; exact ⟨rfl, rfl⟩))
    (fun os started H enc _ => lifted os started H enc)

theorem proved : Rows.FnExactBuildLastSaid := over
end Go.Proofs.Ytgkkfofjaealoaa.lawBuildLast
