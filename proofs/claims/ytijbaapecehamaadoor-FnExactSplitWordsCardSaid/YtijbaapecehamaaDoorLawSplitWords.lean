/-
  The law FnExactSplitWords: the program's SplitWords returns what the reference's returns; for all arguments, where the listed package-level variables hold what the program's text lays.
-/
import Derived.Test.YtijbaapecehamaaDoorOpen
import Derived.Test.YtijbaapecehamaaDoorLaidS
import Derived.Test.YtijbaapecehamaaDoorSplitW
import Derived.Test.YtijbaapecehamaaDoorTie
import Derived.Test.YtijbaapecehamaaDoorCards
import Derived.ProofKit
import Derived.OpenShut
import Derived.ShutString
import Derived.ChangeOld
import Derived.LaidMore
import Derived.Stop.Joined
import Derived.SevenTiedAt
namespace Go.Proofs.YtijbaapecehamaaDoor.lawSplitWords
open Go.ChangeShapes Go.WideShapes Go.ChangeAt Go.RowKit
set_option linter.unusedVariables false

set_option maxHeartbeats 3200000 in
set_option maxRecDepth 100000 in
theorem walk (s0 : ByteArray) (w : World) (hs0 : s0.size ≤ maxLen) (hF : MxAt w) :
    Calls Tryd.prog 7 #[.string s0] w fun e w' => e = .returned (.bool true) ∧ Below w.heap.size w w' := by
  by_cases hbig : 1048576 < s0.size
  · go_enter Tryd.func7, Tryd.ntmps7
    go_wp2_with fail
    go_ret
    exact ⟨rfl, Below.refl _ _⟩
  have hbig2 : s0.size ≤ 1048576 := by omega
  have hwl : (wordsB s0.data.toList).length ≤ 1048577 := by have := words_len s0.data.toList; rw [size_list] at this; omega
  have hI := fun (W : World) (h : MxAt W) => SplitWords_any s0 hbig2 W h
  have hS := fun (W : World) => sSplitWords_any s0 hbig2 W
  generalize wordsB s0.data.toList = ws at *
  generalize hn : ws.length = n at *
  have hneg : ¬ (1 + (n : Int)) < 0 := by omega
  go_enter Tryd.func7, Tryd.ntmps7
  go_wp2_with fail
  refine (hS _).mono ?_
  rintro e w1 ⟨g1, c1, rfl, R1, hb1⟩
  go_wp2_with fail
  refine (hI _ (hF.below hb1)).mono ?_
  rintro e w2 ⟨g2, c2, rfl, hg2, o2, hb2⟩
  go_wp2_with fail
  refine (eqStringS_same _ _ _ _ _ _ _ (Rd.of_own o2) (R1.below hb2) (by omega)).mono ?_
  rintro e w3 ⟨rfl, hb3⟩
  have H3 := Bl.then hb2 hb3
  have o3 := own_below o2 hb3
  clear o2 hb3 hb2
  go_wp2_with fail
  refine (markStringS_any _ _ _ _ _ _ _ o3 (by omega) (by omega)).mono ?_
  rintro e w4 ⟨rfl, ys, hm, o4, hg4⟩
  have H4 := H3.trans (own_grown_below hg4 hg2 H3.size)
  clear hg4 o3 H3
  go_wp2_with fail
  refine (heldStringS_any _ _ _ _ _ _ (Rd.of_own o4) hm (by omega) (by omega)).mono ?_
  rintro e w5 ⟨rfl, hb5⟩
  have H5 := Bl.then H4 hb5
  have o5 := own_below o4 hb5
  clear o4 hb5 H4
  go_wp2_with fail
  refine (hI _ ((hF.below hb1).below H5)).mono ?_
  rintro e w6 ⟨g6, c6, rfl, hg6, o6, hb6⟩
  have H6 := Bl.then H5 hb6
  have o56 := own_below o5 hb6
  clear o5 hb6 H5
  go_wp2_with fail
  refine (eqStringS_same _ _ _ _ _ _ _ (Rd.of_own o6) (R1.below H6) (by omega)).mono ?_
  rintro e w7 ⟨rfl, hb7⟩
  have H7 := Bl.then H6 hb7
  have o7 := own_below o56 hb7
  clear o56 hb7 H6
  go_wp2_with fail
  refine (heldStringS_any _ _ _ _ _ _ (Rd.of_own o7) hm (by omega) (by omega)).mono ?_
  rintro e w8 ⟨rfl, hb8⟩
  have H8 := Bl.then H7 hb8
  go_wp2_with fail
  go_ret
  exact ⟨rfl, Bl.then hb1 H8⟩

/-! ### The row: the argument opened, the walk, and everything read again behind it. -/
theorem laid_met (os : Os) (args : Array Value) : laidMetH Tryd.prog Rows.fnExactSplitWordsRow.laid ((World.laidAll Tryd.prog os Rows.fnExactSplitWordsRow.laid).forCall (fun _ _ => 0) ⟨#[], args, []⟩).memory := by
  rw [MakeChecks.laidMetH_plain _ _ _ (by kernel_rfl)]
  exact laidMet_laidAll _ (by kernel_rfl) (by kernel_rfl)
theorem of_laid {W : World} (h : laidMetH Tryd.prog Rows.fnExactSplitWordsRow.laid W) (hsh : W.ShapedOpen Tryd.prog) : MxAt W := maxLen_of hsh
set_option maxRecDepth 100000 in
theorem lifted (os : Os) (started : os.Started) (H : Type) (enc : TypeId × Value → H) :
    ReturnsInHanded {} Tryd.checked os 7 .any (fun w args => (Rows.fnExactSplitWordsSpec.pre enc Tryd.prog Tryd.f7 [] false w args ∧ laidMetH Tryd.prog Rows.fnExactSplitWordsRow.laid w) ∧ sizedMet enc Tryd.prog Tryd.f7 (OpenSpec.ofChange Rows.fnExactSplitWordsSpec) false w args)
      (Rows.fnExactSplitWordsSpec.post enc Tryd.prog Tryd.f7 false true false false) := by
  refine handed_shaped (C := Tryd.checked) own started (by kernel_rfl) Tryd.func7
    (ChangeSpec.witness_shaped (enc := enc) (C := Tryd.checked) (os := os) (X := fun w _ => laidMetH Tryd.prog Rows.fnExactSplitWordsRow.laid w) false (World.laidAll Tryd.prog os Rows.fnExactSplitWordsRow.laid) #[.string ByteArray.empty] 8 (World.laidAll_os _ _ _) (World.shaped_of_ZipB (by kernel_rfl) (by kernel_rfl)) (by kernel_rfl) (by kernel_rfl) (by kernel_rfl) (laid_met os _)) ?_
  rintro W base args hsh hval0 ⟨⟨⟨ds, gs, before, hW0, _⟩, hL0⟩, _⟩
  have hW := DataW.Whole.of_heap (w' := W) (by rfl) hW0
  have hL : laidMetH Tryd.prog Rows.fnExactSplitWordsRow.laid W := hL0.of_heap (by rfl)
  clear hL0 hW0
  have hval : ∀ (j : Nat) t v, Tryd.f7.params[j]? = some t → args[j]? = some v → Value.okWide Tryd.prog W .any base t v := hval0
  have hW' := hW
  obtain ⟨p, q, hA0, hV, rfl, hfz, hnd⟩ := hW
  have hA : DataW.TrodAll enc Tryd.prog W 0 (fun _ => true) true Tryd.f7.params.toList args.toList ds p := hA0
  rw [Tryd.params7] at hA hval
  obtain ⟨v0, vs0, d0, ds0, p0, q0, hargs, rfl, rfl, h0, r0⟩ := trodAll_cons hA
  obtain ⟨rfl, rfl, rfl⟩ := trodAll_nil r0
  obtain rfl : args = #[v0] := by cases args; simp_all
  obtain ⟨rfl, rfl⟩ := trodVars_none hV
  have k0 := h0
  have lt0 : ∀ x ∈ p0, x.block < W.heap.size := by obtain ⟨m, hm⟩ := k0; exact DataW.trod_lt m _ _ _ hm
  obtain ⟨s0, rfl, rfl, rfl, hs0⟩ := Go.ChangeMaps.open_string Tryd.underlying9 (hval 0 9 v0 rfl rfl) h0
  have hF := of_laid hL hsh
  clear hA0 hval0
  refine (walk s0 W hs0 hF).mono fun e W' ⟨he, bel⟩ => ?_
  subst he
  exact ⟨_, rfl, _, _, _, [], _, [], hW', trodAll_mk1 (shut_bool Tryd.underlying4 _), (trodAll_cons_mk (Below.trod laidOut (by kernel_rfl) (of_decide_eq_true (by kernel_rfl)) k0 bel lt0) trodAll_mk0), rfl, bel.frame _, fun h => by cases h⟩

theorem over : Rows.fnExactSplitWordsRow.holds Tryd.pinned (OpenSpec.ofChange Rows.fnExactSplitWordsSpec) :=
  OpenClaim.holds_of_wide 7 Tryd.f7 rfl rfl rfl rfl rfl rfl rfl ⟨rfl, rfl, rfl, rfl, rfl⟩ rfl rfl rfl rfl rfl (by kernel_rfl) Tryd.func7 (by kernel_rfl)
    (of_decide_eq_true (by kernel_rfl)) (by unfold Func.isWrapper; first | (rw [if_pos (by decide +kernel)]; kernel_rfl) | (rw [if_neg (by decide +kernel)]; exact ⟨rfl, rfl⟩))
    (fun os started H enc _ => lifted os started H enc)

theorem proved : Rows.FnExactSplitWordsCardSaid :=
  Claim7.holds_tied_plain_at .later [] [.data, .pinned] true Rows.fnExactSplitWordsCard.stood.harness true
    over (fun _ h => by cases h) (by kernel_rfl) (fun _ h => by cases h) fnExactSplitWords_row_tie rfl ⟨rfl, rfl⟩ (by kernel_rfl) rfl
    (fun f fn hf hfn => by
      obtain rfl : f = 7 := Option.some.inj ((show Tryd.prog.funcNamed Rows.fnExactSplitWordsRow.func = some 7 by kernel_rfl).symm.trans hf) |>.symm
      obtain rfl : fn = Tryd.f7 := (Option.some.inj (Tryd.func7.symm.trans hfn)).symm
      exact ⟨by kernel_rfl, fun j t ht => by
        rw [Tryd.params7] at ht
        have hm : t ∈ [9] := by simpa using Array.mem_of_getElem? ht
        have hall : ([9].all fun u => !Tryd.prog.wantsStandIn u) = true := by kernel_rfl
        exact (show Tryd.prog.wantsStandIn t = false by simpa using List.all_eq_true.1 hall t hm)⟩)
    (by kernel_rfl)
end Go.Proofs.YtijbaapecehamaaDoor.lawSplitWords
