/-
  The law FnExactCodeName: the program's CodeName returns what the reference's returns; for all arguments, where the listed package-level variables hold what the program's text lays.
-/
import Derived.Test.YtijbaapecehamaaDoorOpen
import Derived.Test.YtijbaapecehamaaDoorCodeN
import Derived.Test.YtijbaapecehamaaDoorTie
import Derived.Test.YtijbaapecehamaaDoorCards
import Derived.ProofKit
import Derived.OpenShut
import Derived.ShutString
import Derived.ChangeOld
import Derived.LaidMore
import Derived.Stop.Joined
import Derived.SevenTiedAt
namespace Go.Proofs.YtijbaapecehamaaDoor.lawCodeName
open Go.ChangeShapes Go.WideShapes Go.ChangeAt Go.RowKit
set_option linter.unusedVariables false

set_option maxHeartbeats 3200000 in
set_option maxRecDepth 100000 in
theorem walk (x0 : Int) (w : World)  (wf0 : (Lit.int .i64 x0).wf = true) (hF : CodesAt w 0) :
    Calls Tryd.prog 3 #[.int .i64 x0] w fun e w' => e = .returned (.bool true) ∧ Below w.heap.size w w' := by
  go_enter Tryd.func3, Tryd.ntmps3
  go_wp2_with fail
  refine (spec_CodeName _ _).mono ?_
  rintro e w1 ⟨rfl, h1⟩
  go_wp2_with fail
  refine (impl_CodeName _ _ ?_).mono ?_
  · intro j hj
    rw [h1.cell (p := ⟨0, j, none⟩) (block_lt_of_cell (hF j hj))]
    exact hF j hj
  rintro e w2 ⟨rfl, rfl⟩
  go_wp2_with fail
  go_ret
  exact ⟨rfl, h1⟩

/-! ### The row: the argument opened, the walk, and everything read again behind it. -/
theorem gCodes : Tryd.prog.globalNamed "loop.example/g01043/impl.codeNames" = some 0 := by kernel_rfl
theorem tCodes : (Tryd.prog.globals[0]?).map (·.type) = some 60 := by kernel_rfl
def cellsC : Array Value := (codesL.map fun b => Value.string ⟨b.toArray⟩).toArray
theorem var_of {W : World} (h : laidMetH Tryd.prog Rows.fnExactCodeNameRow.laid W) : W.var? Tryd.prog "loop.example/g01043/impl.codeNames" = some cellsC := by
  rw [MakeChecks.laidMetH_plain _ _ _ (by kernel_rfl)] at h
  obtain ⟨ps, ⟨g, t, cs, fuel, p, q, hg, ht, hvar, hd, _, _⟩, _⟩ := h
  obtain rfl := Option.some.inj (gCodes.symm.trans hg)
  obtain rfl := Option.some.inj (tCodes.symm.trans ht)
  have hcs := cells_of_strs (bs := codesL) Tryd.underlying60 Tryd.underlying9 (by kernel_rfl) (by kernel_rfl) hd
  rw [hvar]
  obtain ⟨l⟩ := cs
  simp only at hcs
  rw [hcs]; rfl
theorem of_laid {W : World} (h : laidMetH Tryd.prog Rows.fnExactCodeNameRow.laid W) : CodesAt W 0 := fun j hj => by
  have := World.var?_cell gCodes (var_of h) j
  rw [this]
  rcases (show j = 0 ∨ j = 1 ∨ j = 2 ∨ j = 3 ∨ j = 4 ∨ j = 5 ∨ j = 6 ∨ j = 7 ∨ j = 8 ∨ j = 9 ∨ j = 10 by omega) with rfl | rfl | rfl | rfl | rfl | rfl | rfl | rfl | rfl | rfl | rfl <;> rfl
abbrev tableH {H : Type} : DataW H := Rows.laid_loop_example_g01043_impl_codeNames
theorem reads_table {H : Type} (enc : TypeId × Value → H) (W : World) (sp : Nat → Bool) : DataW.trod enc Tryd.prog W 0 sp true 3 60 cellsC.toList = some (tableH, []) := by kernel_rfl
theorem var_below {w w' : World} {n : String} {g : Nat} {cs : Array Value} (hb : Below w.heap.size w w') (h : w.var? Tryd.prog n = some cs) (hg : Tryd.prog.globalNamed n = some g) (hlt : g < w.heap.size) : w'.var? Tryd.prog n = some cs := by
  rw [← h]
  simp only [World.var?, hg, Option.bind_some]
  rw [hb.block g hlt]
theorem door_met (os : Os) (args : Array Value) : laidMetH Tryd.prog Rows.fnExactCodeNameRow.laid ((World.doorLaid Tryd.prog 400 os).forCall (fun _ _ => 0) ⟨#[], args, []⟩).memory :=
  laidMetH_of_parts3 (fuel := 8) (laidMet_of_run' 8 (by kernel_rfl) (by kernel_rfl)) (by kernel_rfl) (by kernel_rfl)
set_option maxRecDepth 100000 in
theorem lifted (os : Os) (started : os.Started) (H : Type) (enc : TypeId × Value → H) :
    ReturnsInHanded {} Tryd.checked os 3 .any (fun w args => (Rows.fnExactCodeNameSpec.pre enc Tryd.prog Tryd.f3 [] false w args ∧ laidMetH Tryd.prog Rows.fnExactCodeNameRow.laid w) ∧ sizedMet enc Tryd.prog Tryd.f3 (OpenSpec.ofChange Rows.fnExactCodeNameSpec) false w args)
      (Rows.fnExactCodeNameSpec.post enc Tryd.prog Tryd.f3 false true false false) := by
  refine returnsInHanded_of_change_and (C := Tryd.checked) (X := fun w _ => laidMetH Tryd.prog Rows.fnExactCodeNameRow.laid w) (fun _ _ _ hh h => h.of_heap hh) own started (by kernel_rfl) Tryd.func3
    (ChangeSpec.witness_shaped (enc := enc) (C := Tryd.checked) (os := os) (X := fun w _ => laidMetH Tryd.prog Rows.fnExactCodeNameRow.laid w) false (World.doorLaid Tryd.prog 400 os) #[.int .i64 0] 8 rfl (World.shaped_of_RefB (by kernel_rfl) (by kernel_rfl)) (by kernel_rfl) (by kernel_rfl) (by kernel_rfl) (door_met os _)) ?_
  intro W base args ds gs before hval0 hW _ _ hL _
  have hval : ∀ (j : Nat) t v, Tryd.f3.params[j]? = some t → args[j]? = some v → Value.okWide Tryd.prog W .any base t v := hval0
  have hW' := hW
  obtain ⟨p, q, hA0, hV, rfl, hfz, hnd⟩ := hW
  have hA : DataW.TrodAll enc Tryd.prog W 0 (fun _ => true) true Tryd.f3.params.toList args.toList ds p := hA0
  rw [Tryd.params3] at hA hval
  obtain ⟨v0, vs0, d0, ds0, p0, q0, hargs, rfl, rfl, h0, r0⟩ := trodAll_cons hA
  obtain ⟨rfl, rfl, rfl⟩ := trodAll_nil r0
  obtain rfl : args = #[v0] := by cases args; simp_all
  have hV : DataW.TrodVars enc Tryd.prog W (fun _ => true) ["loop.example/g01043/impl.codeNames"] gs q := hV
  obtain ⟨g, t, cs, fuel, d, p', rfl, hg, ht, hvar, hd, rfl⟩ := trodVars_one hV
  obtain rfl := Option.some.inj (gCodes.symm.trans hg)
  obtain rfl := Option.some.inj (tCodes.symm.trans ht)
  obtain rfl : cs = cellsC := Option.some.inj (hvar.symm.trans (var_of hL))
  obtain ⟨rfl, rfl⟩ := DataW.Trod.unique (v := .agg cellsC) ⟨fuel, hd⟩ ⟨3, reads_table enc W _⟩
  have k0 := h0
  have lt0 : ∀ x ∈ p0, x.block < W.heap.size := by obtain ⟨m, hm⟩ := k0; exact DataW.trod_lt m _ _ _ hm
  obtain ⟨x0, rfl, rfl, rfl, wf0⟩ := open_int Tryd.underlying2 (hval 0 2 v0 rfl rfl) h0
  have hF := of_laid hL
  clear hA0 hval0
  refine (walk x0 W wf0 hF).mono fun e W' ⟨he, bel⟩ => ?_
  subst he
  exact ⟨_, rfl, _, _, _, [], _, _, hW', trodAll_mk1 (shut_bool Tryd.underlying4 _), (trodAll_cons_mk (Below.trod laidOut (by kernel_rfl) (of_decide_eq_true (by kernel_rfl)) k0 bel lt0) trodAll_mk0), (⟨0, 60, cellsC, 3, [], [], gCodes, tCodes, var_below bel hvar gCodes (block_lt_of_cell (of_laid hL 0 (by omega))), reads_table enc _ _, rfl, rfl⟩), bel.frame _, fun h => by cases h⟩

theorem over : Rows.fnExactCodeNameRow.holds Tryd.pinned (OpenSpec.ofChange Rows.fnExactCodeNameSpec) :=
  OpenClaim.holds_of_wide 3 Tryd.f3 rfl rfl rfl rfl rfl rfl rfl ⟨rfl, rfl, rfl, rfl, rfl⟩ rfl rfl rfl rfl rfl (by kernel_rfl) Tryd.func3 (by kernel_rfl)
    (of_decide_eq_true (by kernel_rfl)) (by unfold Func.isWrapper; first | (rw [if_pos (by decide +kernel)]; kernel_rfl) | (rw [if_neg (by decide +kernel)]; exact ⟨rfl, rfl⟩))
    (fun os started H enc _ => lifted os started H enc)

theorem proved : Rows.FnExactCodeNameCardSaid :=
  Claim7.holds_tied_plain_at .later [] [.data] true Rows.fnExactCodeNameCard.stood.harness true
    over (fun _ h => by cases h) (by kernel_rfl) (fun _ h => by cases h) fnExactCodeName_row_tie rfl ⟨rfl, rfl⟩ (by kernel_rfl) rfl
    (fun f fn hf hfn => by
      obtain rfl : f = 3 := Option.some.inj ((show Tryd.prog.funcNamed Rows.fnExactCodeNameRow.func = some 3 by kernel_rfl).symm.trans hf) |>.symm
      obtain rfl : fn = Tryd.f3 := (Option.some.inj (Tryd.func3.symm.trans hfn)).symm
      exact ⟨by kernel_rfl, fun j t ht => by
        rw [Tryd.params3] at ht
        have hm : t ∈ [2] := by simpa using Array.mem_of_getElem? ht
        have hall : ([2].all fun u => !Tryd.prog.wantsStandIn u) = true := by kernel_rfl
        exact (show Tryd.prog.wantsStandIn t = false by simpa using List.all_eq_true.1 hall t hm)⟩)
    (by kernel_rfl)
end Go.Proofs.YtijbaapecehamaaDoor.lawCodeName
