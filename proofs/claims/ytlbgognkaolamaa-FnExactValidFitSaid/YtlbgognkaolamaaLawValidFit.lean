/-
  The law FnExactValidFit: the program's ValidFit returns what the reference's returns; for all arguments, no condition.
-/
import Derived.Test.YtlbgognkaolamaaOpen
import Derived.Test.YtlbgognkaolamaaOpenF
import Derived.Test.YtlbgognkaolamaaFit
import Derived.ProofKit
import Derived.OpenShut
import Derived.ShutString
import Derived.ChangeOld
import Derived.Deep.RegionHeld3
namespace Go.Proofs.Ytlbgognkaolamaa.lawValidFit
open Go.ChangeShapes Go.WideShapes Go.ChangeAt Go.RowKit
set_option linter.unusedVariables false

set_option maxHeartbeats 1600000 in
theorem walk (a0 b0 c0 : Int) (A0 : Option Addr) (n0 m0 : Nat) (z0 : List Int) (w : World) (hr0 : Rd w 1 A0 n0 (ints z0)) (hn0 : n0 ≤ 9223372036854775807) :
    Calls Try.prog 5 #[.agg #[.int .i64 a0, .int .i64 b0, .int .i64 c0, .slice A0 n0 m0]] w fun e w' => e = .returned (.bool true) ∧ Below w.heap.size w w' := by
  by_cases hbig : 1048576 < n0
  · go_enter Try.func5, Try.ntmps5
    have HW := Below.refl w.heap.size w
    go_wp2_with fail
    have BP := (Blk.new w 50 #[.int .i64 a0, .int .i64 b0, .int .i64 c0, .slice A0 n0 m0])
    replace HW : Below w.heap.size w (w.alloc (.cells #[.int .i64 a0, .int .i64 b0, .int .i64 c0, .slice A0 n0 m0] 50)) := by go_grown
    generalize (w.alloc (.cells #[.int .i64 a0, .int .i64 b0, .int .i64 c0, .slice A0 n0 m0] 50)) = wA at *
    have kP := BP.cell
    have lP := BP.lt
    go_wp2_with fail
    refine (szFit_big _ _ _ _ _ _ _ _ (by omega) (by omega) (by omega) hn0).mono ?_
    rintro e w1 ⟨rfl, hb1⟩
    clear kP lP
    replace BP := BP.below hb1
    replace HW := Bl.then HW hb1
    have zw1 : wA.heap.size ≤ w1.heap.size := hb1.size
    clear hb1
    have kP := BP.cell
    have lP := BP.lt
    go_wp2_with fail
    go_ret
    exact ⟨rfl, HW⟩
  have hs0 : n0 ≤ 1048576 := by omega
  go_enter Try.func5, Try.ntmps5
  have HW := Below.refl w.heap.size w
  go_wp2_with fail
  have BP := (Blk.new w 50 #[.int .i64 a0, .int .i64 b0, .int .i64 c0, .slice A0 n0 m0])
  replace HW : Below w.heap.size w (w.alloc (.cells #[.int .i64 a0, .int .i64 b0, .int .i64 c0, .slice A0 n0 m0] 50)) := by go_grown
  generalize (w.alloc (.cells #[.int .i64 a0, .int .i64 b0, .int .i64 c0, .slice A0 n0 m0] 50)) = wA at *
  have kP := BP.cell
  have lP := BP.lt
  go_wp2_with fail
  refine (szFit_ok _ _ _ _ _ _ _ _ (by omega) (by omega)).mono ?_
  rintro e w1 ⟨rfl, hb1⟩
  clear kP lP
  replace BP := BP.below hb1
  replace HW := Bl.then HW hb1
  have zw1 : wA.heap.size ≤ w1.heap.size := hb1.size
  clear hb1
  have kP := BP.cell
  have lP := BP.lt
  go_wp2_with fail
  refine (toFit_any _ _ _ _ _ _ _ _ (hr0.below HW) hs0).mono ?_
  rintro e w2 ⟨As, cs, rfl, os, hb2⟩
  have Ls := Lib.hid os.lt
  clear kP lP
  replace BP := BP.below hb2
  replace HW := Bl.then HW hb2
  have zw2 : w1.heap.size ≤ w2.heap.size := hb2.size
  clear hb2
  have kP := BP.cell
  have lP := BP.lt
  go_wp2_with fail
  refine (sValidFit_any _ _ _ _ _ _ _ _ (Rd.of_own os) hs0).mono ?_
  rintro e w3 ⟨rfl, hb3⟩
  clear kP lP
  replace BP := BP.below hb3
  replace os := own_below os hb3
  replace HW := Bl.then HW hb3
  have zw3 : w2.heap.size ≤ w3.heap.size := hb3.size
  clear hb3
  have kP := BP.cell
  have lP := BP.lt
  clear os Ls
  go_wp2_with fail
  refine (toFit_any _ _ _ _ _ _ _ _ (hr0.below HW) hs0).mono ?_
  rintro e w4 ⟨Ax, cx, rfl, ox, hb4⟩
  have Lx := Lib.hid ox.lt
  clear kP lP
  replace BP := BP.below hb4
  replace HW := Bl.then HW hb4
  have zw4 : w3.heap.size ≤ w4.heap.size := hb4.size
  clear hb4
  have kP := BP.cell
  have lP := BP.lt
  go_wp2_with fail
  clear kP lP
  replace BP := BP.alloc (.cells #[.int .i64 a0, .int .i64 b0, .int .i64 c0, .slice Ax n0 cx] 53)
  replace ox := ox.alloc (.cells #[.int .i64 a0, .int .i64 b0, .int .i64 c0, .slice Ax n0 cx] 53)
  have BX := Blk.new w4 53 #[.int .i64 a0, .int .i64 b0, .int .i64 c0, .slice Ax n0 cx]
  replace HW := Bl.alloc HW (.cells #[.int .i64 a0, .int .i64 b0, .int .i64 c0, .slice Ax n0 cx] 53)
  have z5 : w4.heap.size ≤ (w4.alloc (.cells #[.int .i64 a0, .int .i64 b0, .int .i64 c0, .slice Ax n0 cx] 53)).heap.size := by simp
  generalize w4.alloc (.cells #[.int .i64 a0, .int .i64 b0, .int .i64 c0, .slice Ax n0 cx] 53) = v5 at *
  have kP := BP.cell
  have lP := BP.lt
  have kX := BX.cell
  have lX := BX.lt
  refine (ValidFit_any _ _ _ _ _ _ _ _ (Rd.of_own ox) hs0).mono ?_
  rintro e w6 ⟨rfl, hb6⟩
  clear kP lP kX lX
  replace BP := BP.below hb6
  replace BX := BX.below hb6
  replace ox := own_below ox hb6
  replace HW := Bl.then HW hb6
  have zw6 : v5.heap.size ≤ w6.heap.size := hb6.size
  clear hb6
  have kP := BP.cell
  have lP := BP.lt
  have kX := BX.cell
  have lX := BX.lt
  go_wp2_with fail
  refine wp_region_held_drew (S := (fun wz => Below w6.heap.size w6 wz ∧ ∀ b o, b < w6.heap.size → wz.cell? ⟨b, o, none⟩ = w6.cell? ⟨b, o, none⟩)) (by kernel_rfl) (old_of (Below.drew (Below.refl _ _))) (fun hHeld => ?_)
  refine wpAnyH_take (i := 0) (oi := ?_) (v := ?_) ?_ (by kernel_rfl) (by kernel_rfl) (by kernel_rfl) ?_ (Or.inl ⟨?_, ?_⟩) (by assumption) ?_
  rotate_left 2
  · (simp only [List.getElem?_toArray, List.getElem?_cons_zero]; rfl)
  · exact fun _ _ _ h => h
  · rfl
  · intro w hSw
    (try dsimp only at hSw)
    go_simp
    try with_reducible rfl
  simp only [put_arr, List.set_cons_zero, List.set_cons_succ]
  refine wpAnyH_take (i := 1) (oi := ?_) (v := ?_) ?_ (by kernel_rfl) (by kernel_rfl) (by kernel_rfl) ?_ (Or.inl ⟨?_, ?_⟩) (by assumption) ?_
  rotate_left 2
  · (simp only [List.getElem?_toArray, List.getElem?_cons_zero, List.getElem?_cons_succ]; rfl)
  · exact fun _ _ _ h => h
  · rfl
  · intro w hSw
    (try dsimp only at hSw)
    go_simp
    try with_reducible rfl
  simp only [put_arr, List.set_cons_zero, List.set_cons_succ]
  refine wpAnyH_ready (rs := [2]) (by kernel_rfl) (by simp) ?_
  refine AllReadyH.cons (o := ?_) ?_ (fun K hK => ?_) AllReadyH.nil
  rotate_left
  · (simp only [List.getElem?_toArray, List.getElem?_cons_zero, List.getElem?_cons_succ]; rfl)
  rw [if_pos (by rfl)]
  go_simp
  (with_reducible refine (toFit_any _ _ _ _ _ _ _ _ ((hr0.below HW).below hHeld.1) hs0).mono ?_)
  rintro e w7 ⟨Ay, cy, rfl, oy, hb7⟩
  have y7 : w6.heap.size ≤ w7.heap.size := Nat.le_trans hHeld.1.size hb7.size
  have Ly := Lib.hid oy.lt
  have HZ7 := Bl.then (w := w6) hHeld.1 hb7
  go_wp2_with fail
  refine hK.out _ _ (old_of HZ7) (fun hHeld2 => ?_)
  clear hK K hHeld
  have hHeld := hHeld2
  clear hHeld2
  refine wpAnyH_ready (rs := [3]) (by kernel_rfl) (by simp) ?_
  refine AllReadyH.cons (o := ?_) ?_ (fun K hK => ?_) AllReadyH.nil
  rotate_left
  · (simp only [List.getElem?_toArray, List.getElem?_cons_zero, List.getElem?_cons_succ]; rfl)
  rw [if_pos (by rfl)]
  go_simp
  (with_reducible refine (eqFit_same _ _ _ _ _ _ _ _ _ _ ((Rd.of_own ox).below HZ7) (Rd.of_own oy) (by omega)).mono ?_)
  rintro e w8 ⟨rfl, hb8⟩
  have y8 : w6.heap.size ≤ w8.heap.size := Nat.le_trans HZ7.size hb8.size
  replace oy := own_below oy hb8
  have HZ8 := Bl.then (w := w6) HZ7 hb8
  go_wp2_with fail
  refine hK.out _ _ (old_of HZ8) (fun hHeld2 => ?_)
  clear hK K hHeld
  have hHeld := hHeld2
  clear hHeld2
  refine wpAnyH_take (i := 4) (oi := ?_) (v := ?_) ?_ (by kernel_rfl) (by kernel_rfl) (by kernel_rfl) ?_ (Or.inl ⟨?_, ?_⟩) (by assumption) ?_
  rotate_left 2
  · (simp only [List.getElem?_toArray, List.getElem?_cons_zero, List.getElem?_cons_succ]; rfl)
  · exact fun _ _ _ h => h
  · rfl
  · intro w hSw
    (try dsimp only at hSw)
    go_simp
    try with_reducible rfl
  simp only [put_arr, List.set_cons_zero, List.set_cons_succ]
  refine wpAnyH_done (by kernel_rfl) ?_ _
  clear hHeld
  clear kP lP kX lX
  replace BP := BP.below HZ8
  replace BX := BX.below HZ8
  replace ox := own_below ox HZ8
  replace HW := Bl.then HW HZ8
  have zw8 : w6.heap.size ≤ w8.heap.size := HZ8.size
  have kP := BP.cell
  have lP := BP.lt
  have kX := BX.cell
  have lX := BX.lt
  go_wp2_with fail
  go_ret
  exact ⟨rfl, HW⟩

/-! ### The row: the argument opened, the walk, and everything read again behind it. -/
set_option maxRecDepth 100000 in
theorem lifted (os : Os) (started : os.Started) (H : Type) (enc : TypeId × Value → H) :
    ReturnsInHanded {} Try.checked os 5 .any (Rows.fnExactValidFitSpec.pre6 enc Try.prog Try.f5 Rows.fnExactValidFitRow.domain false) (Rows.fnExactValidFitSpec.post enc Try.prog Try.f5 false true false false) := by
  refine returnsInHanded_of_change (C := Try.checked) own started (by kernel_rfl) Try.func5
    (ChangeSpec.witness6 (enc := enc) (C := Try.checked) false ⟨#[], #[.agg #[.int .i64 0, .int .i64 0, .int .i64 0, .slice none 0 0]], []⟩ 8 (by kernel_rfl) (by kernel_rfl) (by kernel_rfl) (by kernel_rfl)) ?_
  intro W base args ds gs before hval0 hW hcnd _
  have hval : ∀ (j : Nat) t v, Try.f5.params[j]? = some t → args[j]? = some v → Value.okWide Try.prog W .any base t v := hval0
  have hW' := hW
  obtain ⟨p, q, hA0, hV, rfl, hfz, hnd⟩ := hW
  have hA : DataW.TrodAll enc Try.prog W 0 (fun _ => true) true Try.f5.params.toList args.toList ds p := hA0
  rw [Try.params5] at hA hval
  obtain ⟨v0, vs0, d0, ds0, p0, q0, hargs, rfl, rfl, h0, r0⟩ := trodAll_cons hA
  obtain ⟨rfl, rfl, rfl⟩ := trodAll_nil r0
  obtain rfl : args = #[v0] := by cases args; simp_all
  obtain ⟨rfl, rfl⟩ := trodVars_none hV
  have k0 := h0
  have lt0 : ∀ x ∈ p0, x.block < W.heap.size := by obtain ⟨m, hm⟩ := k0; exact DataW.trod_lt m _ _ _ hm
  obtain ⟨a0, b0, c0, A0, n0, m0, z0, rfl, hr0, hn0⟩ := open_Fit (hval 0 50 v0 rfl rfl) h0
  clear hA0 hval0
  refine (walk a0 b0 c0 A0 n0 m0 z0 W hr0 hn0).mono fun e W' ⟨he, bel⟩ => ?_
  subst he
  exact ⟨_, rfl, _, _, _, [], _, [], hW', trodAll_mk1 (shut_bool Try.underlying4 _), (trodAll_cons_mk (Below.trod laidOut (by kernel_rfl) (of_decide_eq_true (by kernel_rfl)) k0 bel lt0) trodAll_mk0), rfl, bel.frame _, fun h => by cases h⟩

theorem over : Rows.fnExactValidFitRow.holds Try.pinned (OpenSpec.ofChange Rows.fnExactValidFitSpec) :=
  OpenClaim.holds_of_wide 5 Try.f5 rfl rfl rfl rfl rfl rfl rfl ⟨rfl, rfl, rfl, rfl, rfl⟩ rfl rfl rfl rfl rfl (by kernel_rfl) Try.func5 (by kernel_rfl)
    (of_decide_eq_true (by kernel_rfl)) (by unfold Func.isWrapper; first | (rw [if_pos (by decide +kernel)]; kernel_rfl) | (rw [if_neg (by decide +kernel)]; exact ⟨rfl, rfl⟩))
    (fun os started H enc _ => lifted os started H enc)

theorem proved : Rows.FnExactValidFitSaid := over
end Go.Proofs.Ytlbgognkaolamaa.lawValidFit
