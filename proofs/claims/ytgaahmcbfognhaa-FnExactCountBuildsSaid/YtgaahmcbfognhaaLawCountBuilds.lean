/-
  The law FnExactCountBuilds: the program's CountBuilds returns what the reference's returns; for all arguments, no condition.
-/
import Derived.Test.YtgaahmcbfognhaaOpen
import Derived.Test.YtgaahmcbfognhaaCnt
import Derived.ProofKit
import Derived.OpenShut
import Derived.ShutString
import Derived.ChangeOld
import Derived.Deep.RegionHeld3
namespace Go.Proofs.Ytgaahmcbfognhaa.lawCountBuilds
open Go.ChangeShapes Go.WideShapes Go.ChangeAt Go.RowKit
set_option linter.unusedVariables false

set_option maxRecDepth 100000 in
set_option maxHeartbeats 3200000 in
theorem walk (A0 : Option Addr) (n0 m0 : Nat) (z0 : List Int) (x1 : Int) (w : World) (hr0 : Rd w 1 A0 n0 (ints z0)) (hn0 : n0 ≤ 9223372036854775807) :
    Calls Try.prog 3 #[.slice A0 n0 m0, .int .i64 x1] w fun e w' => e = .returned (.bool true) ∧ Below w.heap.size w w' := by
  by_cases hbig : 1048576 < n0
  · have hbig2 : (1048576 : Int) < n0 := by omega
    go_enter Try.func3, Try.ntmps3
    have HW := Below.refl w.heap.size w
    go_wp2_with fail
    go_ret
    exact ⟨rfl, HW⟩
  have hs0 : n0 ≤ 1048576 := by omega
  go_enter Try.func3, Try.ntmps3
  have HW := Below.refl w.heap.size w
  go_wp2_with fail
  refine (toInt64S_any _ _ _ _ _ (hr0.below HW) hs0).mono ?_
  rintro e w1 ⟨As, cs, rfl, os, hb1⟩
  have Ls := Lib.hid os.lt
  replace HW := Bl.then HW hb1
  have zw1 : w.heap.size ≤ w1.heap.size := hb1.size
  clear hb1
  go_wp2_with fail
  refine (sCountBuilds_any _ _ _ _ _ _ (Rd.of_own os) hs0).mono ?_
  rintro e w2 ⟨rfl, hb2⟩
  replace os := own_below os hb2
  replace HW := Bl.then HW hb2
  have zw2 : w1.heap.size ≤ w2.heap.size := hb2.size
  clear hb2
  clear os Ls
  go_wp2_with fail
  refine (toInt64S_any _ _ _ _ _ (hr0.below HW) hs0).mono ?_
  rintro e w3 ⟨Ax, cx, rfl, ox, hb3⟩
  have Lx := Lib.hid ox.lt
  replace HW := Bl.then HW hb3
  have zw3 : w2.heap.size ≤ w3.heap.size := hb3.size
  clear hb3
  go_wp2_with fail
  refine (CountBuilds_any _ _ _ _ _ _ (Rd.of_own ox) hs0).mono ?_
  rintro e w4 ⟨rfl, hb4⟩
  replace ox := own_below ox hb4
  replace HW := Bl.then HW hb4
  have zw4 : w3.heap.size ≤ w4.heap.size := hb4.size
  clear hb4
  go_wp2_with fail
  refine (toInt64S_any _ _ _ _ _ (hr0.below HW) hs0).mono ?_
  rintro e w5 ⟨Ay, cy, rfl, oy, hb5⟩
  have Ly := Lib.hid oy.lt
  replace ox := own_below ox hb5
  replace HW := Bl.then HW hb5
  have zw5 : w4.heap.size ≤ w5.heap.size := hb5.size
  clear hb5
  go_wp2_with fail
  refine (eqInt64S_same _ _ _ _ _ _ _ (Rd.of_own ox) (Rd.of_own oy) (by omega)).mono ?_
  rintro e w6 ⟨rfl, hb6⟩
  replace ox := own_below ox hb6
  replace oy := own_below oy hb6
  replace HW := Bl.then HW hb6
  have zw6 : w5.heap.size ≤ w6.heap.size := hb6.size
  clear hb6
  go_wp2_with fail
  go_ret
  exact ⟨rfl, HW⟩

/-! ### The row: the argument opened, the walk, and everything read again behind it. -/
set_option maxRecDepth 100000 in
theorem lifted (os : Os) (started : os.Started) (H : Type) (enc : TypeId × Value → H) :
    ReturnsInHanded {} Try.checked os 3 .any (Rows.fnExactCountBuildsSpec.pre6 enc Try.prog Try.f3 Rows.fnExactCountBuildsRow.domain false) (Rows.fnExactCountBuildsSpec.post enc Try.prog Try.f3 false true false false) := by
  refine returnsInHanded_of_change (C := Try.checked) own started (by kernel_rfl) Try.func3
    (ChangeSpec.witness6 (enc := enc) (C := Try.checked) false ⟨#[], #[.slice none 0 0, .int .i64 0], []⟩ 8 (by kernel_rfl) (by kernel_rfl) (by kernel_rfl) (by kernel_rfl)) ?_
  intro W base args ds gs before hval0 hW hcnd _
  have hval : ∀ (j : Nat) t v, Try.f3.params[j]? = some t → args[j]? = some v → Value.okWide Try.prog W .any base t v := hval0
  have hW' := hW
  obtain ⟨p, q, hA0, hV, rfl, hfz, hnd⟩ := hW
  have hA : DataW.TrodAll enc Try.prog W 0 (fun _ => true) true Try.f3.params.toList args.toList ds p := hA0
  rw [Try.params3] at hA hval
  obtain ⟨v0, vs0, d0, ds0, p0, q0, hargs, rfl, rfl, h0, r0⟩ := trodAll_cons hA
  obtain ⟨v1, vs1, d1, ds1, p1, q1, rfl, rfl, rfl, h1, r1⟩ := trodAll_cons r0
  obtain ⟨rfl, rfl, rfl⟩ := trodAll_nil r1
  obtain rfl : args = #[v0, v1] := by cases args; simp_all
  obtain ⟨rfl, rfl⟩ := trodVars_none hV
  have k0 := h0
  have lt0 : ∀ x ∈ p0, x.block < W.heap.size := by obtain ⟨m, hm⟩ := k0; exact DataW.trod_lt m _ _ _ hm
  have k1 := h1
  have lt1 : ∀ x ∈ p1, x.block < W.heap.size := by obtain ⟨m, hm⟩ := k1; exact DataW.trod_lt m _ _ _ hm
  obtain ⟨A0, n0, m0, rfl⟩ := okWide_slice Try.underlying22 (hval 0 22 v0 rfl rfl)
  obtain ⟨z0, hr0, hn0, -⟩ := open_Ints h0
  obtain ⟨x1, rfl, rfl, rfl, wf1⟩ := open_int Try.underlying2 (hval 1 2 v1 rfl rfl) h1
  clear hA0 hval0
  refine (walk A0 n0 m0 z0 x1 W hr0 hn0).mono fun e W' ⟨he, bel⟩ => ?_
  subst he
  exact ⟨_, rfl, _, _, _, [], _, [], hW', trodAll_mk1 (shut_bool Try.underlying4 _), (trodAll_cons_mk (Below.trod laidOut (by kernel_rfl) (of_decide_eq_true (by kernel_rfl)) k0 bel lt0) (trodAll_cons_mk (Below.trod laidOut (by kernel_rfl) (of_decide_eq_true (by kernel_rfl)) k1 bel lt1) trodAll_mk0)), rfl, bel.frame _, fun h => by cases h⟩

theorem over : Rows.fnExactCountBuildsRow.holds Try.pinned (OpenSpec.ofChange Rows.fnExactCountBuildsSpec) :=
  OpenClaim.holds_of_wide 3 Try.f3 rfl rfl rfl rfl rfl rfl rfl ⟨rfl, rfl, rfl, rfl, rfl⟩ rfl rfl rfl rfl rfl (by kernel_rfl) Try.func3 (by kernel_rfl)
    (of_decide_eq_true (by kernel_rfl)) (by unfold Func.isWrapper; first | (rw [if_pos (by decide +kernel)]; kernel_rfl) | (rw [if_neg (by decide +kernel)]; exact ⟨rfl, rfl⟩))
    (fun os started H enc _ => lifted os started H enc)

theorem proved : Rows.FnExactCountBuildsSaid := over
end Go.Proofs.Ytgaahmcbfognhaa.lawCountBuilds
