/-
  The law FnExactGradeText: the program's GradeText returns what the reference's returns; for all arguments, where the listed package-level variables hold what the program's text lays.
-/
import Derived.Test.YtijbaapecehamaaDoorOpen
import Derived.Test.YtijbaapecehamaaDoorLaid
import Derived.Test.YtijbaapecehamaaDoorTo
import Derived.Test.YtijbaapecehamaaDoorTextF
import Derived.Test.YtijbaapecehamaaDoorTie
import Derived.Test.YtijbaapecehamaaDoorCards
import Derived.ProofKit
import Derived.OpenShut
import Derived.ShutString
import Derived.ChangeOld
import Derived.LaidMore
import Derived.Stop.Joined
import Derived.SevenTiedAt
namespace Go.Proofs.YtijbaapecehamaaDoor.lawGradeText
open Go.ChangeShapes Go.WideShapes Go.ChangeAt Go.RowKit
set_option linter.unusedVariables false

set_option maxHeartbeats 3200000 in
set_option maxRecDepth 100000 in
theorem walk (a0 b0 c0 d0 e0 : Int) (w : World)  (hF : PowAt w) :
    Calls Tryd.prog 9 #[.agg #[.int .i64 a0, .int .i64 b0, .int .i64 c0, .int .i64 d0, .int .i64 e0]] w fun e w' => e = .returned (.bool true) ∧ Below w.heap.size w w' := by
  go_enter Tryd.func9, Tryd.ntmps9
  have HW := Below.refl w.heap.size w
  go_wp2_with fail
  have BP := (Blk.new w 39 #[.int .i64 a0, .int .i64 b0, .int .i64 c0, .int .i64 d0, .int .i64 e0])
  replace HW : Below w.heap.size w (w.alloc (.cells #[.int .i64 a0, .int .i64 b0, .int .i64 c0, .int .i64 d0, .int .i64 e0] 39)) := by go_grown
  generalize (w.alloc (.cells #[.int .i64 a0, .int .i64 b0, .int .i64 c0, .int .i64 d0, .int .i64 e0] 39)) = wA at *
  have zA := HW.size
  have kP := BP.cell
  have lP := BP.lt
  go_wp2_with fail
  refine (toGrade_any _ _ _ _ _ _).mono ?_
  rintro e w1 ⟨rfl, hb1⟩
  clear kP lP
  replace BP := BP.below hb1
  replace HW := Bl.then HW hb1
  have zw1 : wA.heap.size ≤ w1.heap.size := hb1.size
  clear hb1
  have kP := BP.cell
  have lP := BP.lt
  go_wp2_with fail
  refine (sGradeText_any _ _ _ _ _ _).mono ?_
  rintro e w2 ⟨rfl, hb2⟩
  clear kP lP
  replace BP := BP.below hb2
  replace HW := Bl.then HW hb2
  have zw2 : w1.heap.size ≤ w2.heap.size := hb2.size
  clear hb2
  have kP := BP.cell
  have lP := BP.lt
  go_wp2_with fail
  refine (toGrade_any _ _ _ _ _ _).mono ?_
  rintro e w3 ⟨rfl, hb3⟩
  clear kP lP
  replace BP := BP.below hb3
  replace HW := Bl.then HW hb3
  have zw3 : w2.heap.size ≤ w3.heap.size := hb3.size
  clear hb3
  have kP := BP.cell
  have lP := BP.lt
  go_wp2_with fail
  refine (GradeText_any _ _ _ _ _ _ (hF.below HW)).mono ?_
  rintro e w4 ⟨rfl, hb4⟩
  clear kP lP
  replace BP := BP.below hb4
  replace HW := Bl.then HW hb4
  have zw4 : w3.heap.size ≤ w4.heap.size := hb4.size
  clear hb4
  have kP := BP.cell
  have lP := BP.lt
  go_wp2_with fail
  go_ret
  exact ⟨rfl, HW⟩

/-! ### The row: the argument opened, the walk, and everything read again behind it. -/
theorem of_laid {W : World} (h : laidMetH Tryd.prog Rows.fnExactGradeTextRow.laid W) : PowAt W := by
  rw [MakeChecks.laidMetH_plain _ _ _ (by kernel_rfl)] at h
  exact powAt_of h (List.mem_of_getElem? (i := 2) rfl)
theorem door_met (os : Os) (args : Array Value) : laidMetH Tryd.prog Rows.fnExactGradeTextRow.laid ((World.doorLaid Tryd.prog 400 os).forCall (fun _ _ => 0) ⟨#[], args, []⟩).memory :=
  laidMetH_of_parts3 (fuel := 8) (laidMet_of_run' 8 (by kernel_rfl) (by kernel_rfl)) (by kernel_rfl) (by kernel_rfl)
set_option maxRecDepth 100000 in
theorem lifted (os : Os) (started : os.Started) (H : Type) (enc : TypeId × Value → H) :
    ReturnsInHanded {} Tryd.checked os 9 .any (fun w args => (Rows.fnExactGradeTextSpec.pre enc Tryd.prog Tryd.f9 [] false w args ∧ laidMetH Tryd.prog Rows.fnExactGradeTextRow.laid w) ∧ sizedMet enc Tryd.prog Tryd.f9 (OpenSpec.ofChange Rows.fnExactGradeTextSpec) false w args)
      (Rows.fnExactGradeTextSpec.post enc Tryd.prog Tryd.f9 false true false false) := by
  refine returnsInHanded_of_change_and (C := Tryd.checked) (X := fun w _ => laidMetH Tryd.prog Rows.fnExactGradeTextRow.laid w) (fun _ _ _ hh h => h.of_heap hh) own started (by kernel_rfl) Tryd.func9
    (ChangeSpec.witness_shaped (enc := enc) (C := Tryd.checked) (os := os) (X := fun w _ => laidMetH Tryd.prog Rows.fnExactGradeTextRow.laid w) false (World.doorLaid Tryd.prog 400 os) #[.agg #[.int .i64 0, .int .i64 0, .int .i64 0, .int .i64 0, .int .i64 0]] 8 rfl (World.shaped_of_RefB (by kernel_rfl) (by kernel_rfl)) (by kernel_rfl) (by kernel_rfl) (by kernel_rfl) (door_met os _)) ?_
  intro W base args ds gs before hval0 hW _ _ hL _
  have hval : ∀ (j : Nat) t v, Tryd.f9.params[j]? = some t → args[j]? = some v → Value.okWide Tryd.prog W .any base t v := hval0
  have hW' := hW
  obtain ⟨p, q, hA0, hV, rfl, hfz, hnd⟩ := hW
  have hA : DataW.TrodAll enc Tryd.prog W 0 (fun _ => true) true Tryd.f9.params.toList args.toList ds p := hA0
  rw [Tryd.params9] at hA hval
  obtain ⟨v0, vs0, d0, ds0, p0, q0, hargs, rfl, rfl, h0, r0⟩ := trodAll_cons hA
  obtain ⟨rfl, rfl, rfl⟩ := trodAll_nil r0
  obtain rfl : args = #[v0] := by cases args; simp_all
  obtain ⟨rfl, rfl⟩ := trodVars_none hV
  have k0 := h0
  have lt0 : ∀ x ∈ p0, x.block < W.heap.size := by obtain ⟨m, hm⟩ := k0; exact DataW.trod_lt m _ _ _ hm
  obtain ⟨a0, b0, c0, d0, e0, rfl, -, -, -, -, -⟩ := open_Grade (hval 0 39 v0 rfl rfl) h0
  have hF := of_laid hL
  clear hA0 hval0
  refine (walk a0 b0 c0 d0 e0 W  hF).mono fun e W' ⟨he, bel⟩ => ?_
  subst he
  exact ⟨_, rfl, _, _, _, [], _, [], hW', trodAll_mk1 (shut_bool Tryd.underlying4 _), (trodAll_cons_mk (Below.trod laidOut (by kernel_rfl) (of_decide_eq_true (by kernel_rfl)) k0 bel lt0) trodAll_mk0), rfl, bel.frame _, fun h => by cases h⟩

theorem over : Rows.fnExactGradeTextRow.holds Tryd.pinned (OpenSpec.ofChange Rows.fnExactGradeTextSpec) :=
  OpenClaim.holds_of_wide 9 Tryd.f9 rfl rfl rfl rfl rfl rfl rfl ⟨rfl, rfl, rfl, rfl, rfl⟩ rfl rfl rfl rfl rfl (by kernel_rfl) Tryd.func9 (by kernel_rfl)
    (of_decide_eq_true (by kernel_rfl)) (by unfold Func.isWrapper; first | (rw [if_pos (by decide +kernel)]; kernel_rfl) | (rw [if_neg (by decide +kernel)]; exact ⟨rfl, rfl⟩))
    (fun os started H enc _ => lifted os started H enc)

theorem proved : Rows.FnExactGradeTextCardSaid :=
  Claim7.holds_tied_plain_at .later [] [.data, .data, .data] true Rows.fnExactGradeTextCard.stood.harness true
    over (fun _ h => by cases h) (by kernel_rfl) (fun _ h => by cases h) fnExactGradeText_row_tie rfl ⟨rfl, rfl⟩ (by kernel_rfl) rfl
    (fun f fn hf hfn => by
      obtain rfl : f = 9 := Option.some.inj ((show Tryd.prog.funcNamed Rows.fnExactGradeTextRow.func = some 9 by kernel_rfl).symm.trans hf) |>.symm
      obtain rfl : fn = Tryd.f9 := (Option.some.inj (Tryd.func9.symm.trans hfn)).symm
      exact ⟨by kernel_rfl, fun j t ht => by
        rw [Tryd.params9] at ht
        have hm : t ∈ [39] := by simpa using Array.mem_of_getElem? ht
        have hall : ([39].all fun u => !Tryd.prog.wantsStandIn u) = true := by kernel_rfl
        exact (show Tryd.prog.wantsStandIn t = false by simpa using List.all_eq_true.1 hall t hm)⟩)
    (by kernel_rfl)
end Go.Proofs.YtijbaapecehamaaDoor.lawGradeText
