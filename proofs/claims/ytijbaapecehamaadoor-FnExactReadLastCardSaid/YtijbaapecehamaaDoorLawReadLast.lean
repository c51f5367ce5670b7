/-
  The law FnExactReadLast: the program's ReadLast returns what the reference's returns; for all arguments, where the listed package-level variables hold what the program's text lays.
-/
import Derived.Test.YtijbaapecehamaaDoorOpen
import Derived.Test.YtijbaapecehamaaDoorLaidS
import Derived.Test.YtijbaapecehamaaDoorReadL
import Derived.Test.YtijbaapecehamaaDoorTie
import Derived.Test.YtijbaapecehamaaDoorCards
import Derived.ProofKit
import Derived.OpenShut
import Derived.ShutString
import Derived.ChangeOld
import Derived.LaidMore
import Derived.Stop.Joined
import Derived.SevenTiedAt
namespace Go.Proofs.YtijbaapecehamaaDoor.lawReadLast
open Go.ChangeShapes Go.WideShapes Go.ChangeAt Go.RowKit
set_option linter.unusedVariables false

set_option maxHeartbeats 3200000 in
set_option maxRecDepth 100000 in
theorem walk (s0 : ByteArray) (w : World) (hs0 : s0.size ≤ maxLen) (hF : SpAt w) :
    Calls Tryd.prog 14 #[.string s0] w fun e w' => e = .returned (.bool true) ∧ Below w.heap.size w w' := by
  by_cases hbig : 1048576 < s0.size
  · go_enter Tryd.func14, Tryd.ntmps14
    go_wp2_with fail
    go_ret
    exact ⟨rfl, Below.refl _ _⟩
  have hbig2 : s0.size ≤ 1048576 := by omega
  go_enter Tryd.func14, Tryd.ntmps14
  go_wp2_with fail
  refine (sReadLast_any _ hbig2 _).mono ?_
  rintro e w1 ⟨rfl, hb1⟩
  go_wp2_with fail
  refine (ReadLast_any _ hbig2 _ ((hF.below hb1).below (Bl.alloc (Below.refl _ _) _))).mono ?_
  rintro e w2 ⟨rfl, hb2⟩
  have BA := (Blk.new w1 48 #[.string (ls (rdLast s0.data.toList) (toBA (pt s0.data.toList 0))), .int .i64 (lw (rdLast s0.data.toList) (ix (numsOf (pt s0.data.toList 1)) 0)), .int .i64 (lw (rdLast s0.data.toList) (ix (numsOf (pt s0.data.toList 1)) 1)), .int .i64 (lw (rdLast s0.data.toList) (ix (numsOf (pt s0.data.toList 1)) 2)), .int .i64 (lw (rdLast s0.data.toList) (ix (numsOf (pt s0.data.toList 1)) 3)), .int .i64 (lw (rdLast s0.data.toList) (numR (pt s0.data.toList 3)).1)]).below hb2
  have HW : Below w.heap.size w w2 := Bl.then (Bl.alloc hb1 (.cells #[.string (ls (rdLast s0.data.toList) (toBA (pt s0.data.toList 0))), .int .i64 (lw (rdLast s0.data.toList) (ix (numsOf (pt s0.data.toList 1)) 0)), .int .i64 (lw (rdLast s0.data.toList) (ix (numsOf (pt s0.data.toList 1)) 1)), .int .i64 (lw (rdLast s0.data.toList) (ix (numsOf (pt s0.data.toList 1)) 2)), .int .i64 (lw (rdLast s0.data.toList) (ix (numsOf (pt s0.data.toList 1)) 3)), .int .i64 (lw (rdLast s0.data.toList) (numR (pt s0.data.toList 3)).1)] 48)) hb2
  clear hb2
  have a0 := BA.cell 0
  have a1 := BA.cell 1
  have a2 := BA.cell 2
  have a3 := BA.cell 3
  have a4 := BA.cell 4
  have a5 := BA.cell 5
  have la := BA.lt
  go_wp2_with fail
  refine (eqLast_same _ _ _ _ _ _ _).mono ?_
  rintro e w3 ⟨rfl, hb3⟩
  have HW3 : Below w.heap.size w w3 := Bl.then (Bl.alloc HW (.cells #[.string (ls (rdLast s0.data.toList) (toBA (pt s0.data.toList 0))), .int .i64 (lw (rdLast s0.data.toList) (ix (numsOf (pt s0.data.toList 1)) 0)), .int .i64 (lw (rdLast s0.data.toList) (ix (numsOf (pt s0.data.toList 1)) 1)), .int .i64 (lw (rdLast s0.data.toList) (ix (numsOf (pt s0.data.toList 1)) 2)), .int .i64 (lw (rdLast s0.data.toList) (ix (numsOf (pt s0.data.toList 1)) 3)), .int .i64 (lw (rdLast s0.data.toList) (numR (pt s0.data.toList 3)).1)] 48)) hb3
  go_wp2_with fail
  go_ret
  exact ⟨rfl, HW3⟩

/-! ### The row: the argument opened, the walk, and everything read again behind it. -/
theorem laid_met (os : Os) (args : Array Value) : laidMetH Tryd.prog Rows.fnExactReadLastRow.laid ((World.laidAll Tryd.prog os Rows.fnExactReadLastRow.laid).forCall (fun _ _ => 0) ⟨#[], args, []⟩).memory := by
  rw [MakeChecks.laidMetH_plain _ _ _ (by kernel_rfl)]
  exact laidMet_laidAll _ (by kernel_rfl) (by kernel_rfl)
theorem of_laid {W : World} (h : laidMetH Tryd.prog Rows.fnExactReadLastRow.laid W) (hsh : W.ShapedOpen Tryd.prog) : SpAt W := by
  rw [MakeChecks.laidMetH_plain _ _ _ (by kernel_rfl)] at h
  exact ⟨⟨powAt_of h (List.mem_of_getElem? (i := 2) rfl),
    iface_of_reads (by kernel_rfl : Tryd.prog.globalNamed "strconv.ErrSyntax" = some 2) (by kernel_rfl : (Tryd.prog.globals[2]?).map (·.type) = some 78) Tryd.underlying78 (Lib.laidMet.reads h (List.mem_of_getElem? (i := 5) rfl)),
    iface_of_reads (by kernel_rfl : Tryd.prog.globalNamed "strconv.ErrRange" = some 3) (by kernel_rfl : (Tryd.prog.globals[3]?).map (·.type) = some 78) Tryd.underlying78 (Lib.laidMet.reads h (List.mem_of_getElem? (i := 4) rfl))⟩,
    maxLen_of hsh⟩
set_option maxRecDepth 100000 in
theorem lifted (os : Os) (started : os.Started) (H : Type) (enc : TypeId × Value → H) :
    ReturnsInHanded {} Tryd.checked os 14 .any (fun w args => (Rows.fnExactReadLastSpec.pre enc Tryd.prog Tryd.f14 [] false w args ∧ laidMetH Tryd.prog Rows.fnExactReadLastRow.laid w) ∧ sizedMet enc Tryd.prog Tryd.f14 (OpenSpec.ofChange Rows.fnExactReadLastSpec) false w args)
      (Rows.fnExactReadLastSpec.post enc Tryd.prog Tryd.f14 false true false false) := by
  refine handed_shaped (C := Tryd.checked) own started (by kernel_rfl) Tryd.func14
    (ChangeSpec.witness_shaped (enc := enc) (C := Tryd.checked) (os := os) (X := fun w _ => laidMetH Tryd.prog Rows.fnExactReadLastRow.laid w) false (World.laidAll Tryd.prog os Rows.fnExactReadLastRow.laid) #[.string ByteArray.empty] 8 (World.laidAll_os _ _ _) (World.shaped_of_ZipB (by kernel_rfl) (by kernel_rfl)) (by kernel_rfl) (by kernel_rfl) (by kernel_rfl) (laid_met os _)) ?_
  rintro W base args hsh hval0 ⟨⟨⟨ds, gs, before, hW0, _⟩, hL0⟩, _⟩
  have hW := DataW.Whole.of_heap (w' := W) (by rfl) hW0
  have hL : laidMetH Tryd.prog Rows.fnExactReadLastRow.laid W := hL0.of_heap (by rfl)
  clear hL0 hW0
  have hval : ∀ (j : Nat) t v, Tryd.f14.params[j]? = some t → args[j]? = some v → Value.okWide Tryd.prog W .any base t v := hval0
  have hW' := hW
  obtain ⟨p, q, hA0, hV, rfl, hfz, hnd⟩ := hW
  have hA : DataW.TrodAll enc Tryd.prog W 0 (fun _ => true) true Tryd.f14.params.toList args.toList ds p := hA0
  rw [Tryd.params14] at hA hval
  obtain ⟨v0, vs0, d0, ds0, p0, q0, hargs, rfl, rfl, h0, r0⟩ := trodAll_cons hA
  obtain ⟨rfl, rfl, rfl⟩ := trodAll_nil r0
  obtain rfl : args = #[v0] := by cases args; simp_all
  obtain ⟨rfl, rfl⟩ := trodVars_none hV
  have k0 := h0
  have lt0 : ∀ x ∈ p0, x.block < W.heap.size := by obtain ⟨m, hm⟩ := k0; exact DataW.trod_lt m _ _ _ hm
  obtain ⟨s0, rfl, rfl, rfl, hs0⟩ := Go.ChangeMaps.open_string Tryd.underlying9 (hval 0 9 v0 rfl rfl) h0
  have hF := of_laid hL hsh
  clear hA0 hval0
  refine (walk s0 W hs0 hF).mono fun e W' ⟨he, bel⟩ => ?_
  subst he
  exact ⟨_, rfl, _, _, _, [], _, [], hW', trodAll_mk1 (shut_bool Tryd.underlying4 _), (trodAll_cons_mk (Below.trod laidOut (by kernel_rfl) (of_decide_eq_true (by kernel_rfl)) k0 bel lt0) trodAll_mk0), rfl, bel.frame _, fun h => by cases h⟩

theorem over : Rows.fnExactReadLastRow.holds Tryd.pinned (OpenSpec.ofChange Rows.fnExactReadLastSpec) :=
  OpenClaim.holds_of_wide 14 Tryd.f14 rfl rfl rfl rfl rfl rfl rfl ⟨rfl, rfl, rfl, rfl, rfl⟩ rfl rfl rfl rfl rfl (by kernel_rfl) Tryd.func14 (by kernel_rfl)
    (of_decide_eq_true (by kernel_rfl)) (by unfold Func.isWrapper; first | (rw [if_pos (by decide +kernel)]; kernel_rfl) | (rw [if_neg (by decide +kernel)]; exact ⟨rfl, rfl⟩))
    (fun os started H enc _ => lifted os started H enc)

theorem proved : Rows.FnExactReadLastCardSaid :=
  Claim7.holds_tied_plain_at .later [] [.data, .data, .data, .data, .sentinel, .sentinel, .pinned] true Rows.fnExactReadLastCard.stood.harness true
    over (fun _ h => by cases h) (by kernel_rfl) (fun _ h => by cases h) fnExactReadLast_row_tie rfl ⟨rfl, rfl⟩ (by kernel_rfl) rfl
    (fun f fn hf hfn => by
      obtain rfl : f = 14 := Option.some.inj ((show Tryd.prog.funcNamed Rows.fnExactReadLastRow.func = some 14 by kernel_rfl).symm.trans hf) |>.symm
      obtain rfl : fn = Tryd.f14 := (Option.some.inj (Tryd.func14.symm.trans hfn)).symm
      exact ⟨by kernel_rfl, fun j t ht => by
        rw [Tryd.params14] at ht
        have hm : t ∈ [9] := by simpa using Array.mem_of_getElem? ht
        have hall : ([9].all fun u => !Tryd.prog.wantsStandIn u) = true := by kernel_rfl
        exact (show Tryd.prog.wantsStandIn t = false by simpa using List.all_eq_true.1 hall t hm)⟩)
    (by kernel_rfl)
end Go.Proofs.YtijbaapecehamaaDoor.lawReadLast
