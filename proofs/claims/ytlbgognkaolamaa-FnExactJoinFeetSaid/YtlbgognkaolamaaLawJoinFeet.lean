/-
  The law FnExactJoinFeet: the program's JoinFeet returns what the reference's returns; for all arguments, no condition.
-/
import Derived.Test.YtlbgognkaolamaaOpen
import Derived.Test.YtlbgognkaolamaaOpenS
import Derived.Test.YtlbgognkaolamaaJoin4
import Derived.ProofKit
import Derived.OpenShut
import Derived.ShutString
import Derived.ChangeOld
import Derived.Deep.RegionHeld3
namespace Go.Proofs.Ytlbgognkaolamaa.lawJoinFeet
open Go.ChangeShapes Go.WideShapes Go.ChangeAt Go.RowKit
set_option linter.unusedVariables false

set_option maxHeartbeats 800000 in
theorem walk (A0 : Option Addr) (n0 m0 : Nat) (z0 : List FootD) (x1 : Int) (w : World) (hr0 : Rd w 4 A0 n0 (feet z0)) (hn0 : n0 ≤ 9223372036854775807) :
    Calls Try.prog 3 #[.slice A0 n0 m0, .int .i64 x1] w fun e w' => e = .returned (.bool true) ∧ Below w.heap.size w w' := by
  by_cases hbig0 : 1048576 < n0
  · go_enter Try.func3, Try.ntmps3
    go_wp2_with fail
    refine (szFootS_big _ _ _ _ _ (by omega) (by omega) (by omega) hn0).mono ?_
    rintro e w900 ⟨rfl, rfl⟩
    go_wp2_with fail
    go_ret
    refine ⟨rfl, ?_⟩
    go_grown
  have hs0 : n0 ≤ 1048576 := by omega
  go_enter Try.func3, Try.ntmps3
  have H0 : Below w.heap.size w w := Below.refl _ _
  go_wp2_with fail
  refine (szFootS_ok _ _ _ _ _ (by omega) (by omega)).mono ?_
  rintro e w900 ⟨rfl, rfl⟩
  go_wp2_with fail
  refine (toFootS_any _ _ _ _ _ (hr0.below H0) (by omega)).mono ?_
  rintro e w1 ⟨As, cs, rfl, os_1, hb1⟩
  have H1 := Bl.then H0 hb1
  have Ls := Lib.hid os_1.lt
  go_wp2_with fail
  refine (sJoinFeet_any _ _ _ _ _ _ (Rd.of_own os_1) (by omega)).mono ?_
  rintro e w2 ⟨rfl, hb2⟩
  have H2 := Bl.then H1 hb2
  have s2 : w1.heap.size ≤ w2.heap.size := hb2.size
  have os_2 := own_below os_1 hb2
  go_wp2_with fail
  refine (toFootS_any _ _ _ _ _ ((hr0.below H2).alloc (.cells #[.int .i64 (fNum (joinC z0 x1) (eachOf vMid (joinL z0 x1)).l), .int .i64 (fNum (joinC z0 x1) (eachOf vMid (joinL z0 x1)).b), .int .i64 (fNum (joinC z0 x1) (eachOf vMid (joinL z0 x1)).i), .int .i64 (fNum (joinC z0 x1) (eachOf vMid (joinL z0 x1)).h)] 25)) (by omega)).mono ?_
  rintro e w3 ⟨Ax, cx, rfl, ox_3, hb3⟩
  have H3 := Bl.then (Bl.alloc H2 (.cells #[.int .i64 (fNum (joinC z0 x1) (eachOf vMid (joinL z0 x1)).l), .int .i64 (fNum (joinC z0 x1) (eachOf vMid (joinL z0 x1)).b), .int .i64 (fNum (joinC z0 x1) (eachOf vMid (joinL z0 x1)).i), .int .i64 (fNum (joinC z0 x1) (eachOf vMid (joinL z0 x1)).h)] 25)) hb3
  have s3 : w2.heap.size ≤ w3.heap.size := Nat.le_trans (by simp) hb3.size
  have Bw_3 := (Blk.new w2 25 #[.int .i64 (fNum (joinC z0 x1) (eachOf vMid (joinL z0 x1)).l), .int .i64 (fNum (joinC z0 x1) (eachOf vMid (joinL z0 x1)).b), .int .i64 (fNum (joinC z0 x1) (eachOf vMid (joinL z0 x1)).i), .int .i64 (fNum (joinC z0 x1) (eachOf vMid (joinL z0 x1)).h)]).below hb3
  have Lx := Lib.hid ox_3.lt
  go_wp2_with fail
  refine (JoinFeet_any _ _ _ _ _ _ (Rd.of_own ox_3) (by omega)).mono ?_
  rintro e w4 ⟨rfl, hb4⟩
  have H4 := Bl.then H3 hb4
  have s4 : w3.heap.size ≤ w4.heap.size := hb4.size
  have ox_4 := own_below ox_3 hb4
  have Bw_4 := Bw_3.below hb4
  have kbw := (Bw_4.alloc (.cells #[.int .i64 (fNum (joinC z0 x1) (eachOf vMid (joinL z0 x1)).l), .int .i64 (fNum (joinC z0 x1) (eachOf vMid (joinL z0 x1)).b), .int .i64 (fNum (joinC z0 x1) (eachOf vMid (joinL z0 x1)).i), .int .i64 (fNum (joinC z0 x1) (eachOf vMid (joinL z0 x1)).h)] 25)).cell
  have lbw := (Bw_4.alloc (.cells #[.int .i64 (fNum (joinC z0 x1) (eachOf vMid (joinL z0 x1)).l), .int .i64 (fNum (joinC z0 x1) (eachOf vMid (joinL z0 x1)).b), .int .i64 (fNum (joinC z0 x1) (eachOf vMid (joinL z0 x1)).i), .int .i64 (fNum (joinC z0 x1) (eachOf vMid (joinL z0 x1)).h)] 25)).lt
  go_wp2_with fail
  refine (eqFootV_same _ _ _ _ _).mono ?_
  rintro e w5 ⟨rfl, hb5⟩
  have H5 := Bl.then (Bl.alloc H4 (.cells #[.int .i64 (fNum (joinC z0 x1) (eachOf vMid (joinL z0 x1)).l), .int .i64 (fNum (joinC z0 x1) (eachOf vMid (joinL z0 x1)).b), .int .i64 (fNum (joinC z0 x1) (eachOf vMid (joinL z0 x1)).i), .int .i64 (fNum (joinC z0 x1) (eachOf vMid (joinL z0 x1)).h)] 25)) hb5
  have s5 : w4.heap.size ≤ w5.heap.size := Nat.le_trans (by simp) hb5.size
  have ox_5 := own_below (ox_4.alloc (.cells #[.int .i64 (fNum (joinC z0 x1) (eachOf vMid (joinL z0 x1)).l), .int .i64 (fNum (joinC z0 x1) (eachOf vMid (joinL z0 x1)).b), .int .i64 (fNum (joinC z0 x1) (eachOf vMid (joinL z0 x1)).i), .int .i64 (fNum (joinC z0 x1) (eachOf vMid (joinL z0 x1)).h)] 25)) hb5
  have Bw_5 := (Bw_4.alloc (.cells #[.int .i64 (fNum (joinC z0 x1) (eachOf vMid (joinL z0 x1)).l), .int .i64 (fNum (joinC z0 x1) (eachOf vMid (joinL z0 x1)).b), .int .i64 (fNum (joinC z0 x1) (eachOf vMid (joinL z0 x1)).i), .int .i64 (fNum (joinC z0 x1) (eachOf vMid (joinL z0 x1)).h)] 25)).below hb5
  have Bg_5 := (Blk.new w4 25 #[.int .i64 (fNum (joinC z0 x1) (eachOf vMid (joinL z0 x1)).l), .int .i64 (fNum (joinC z0 x1) (eachOf vMid (joinL z0 x1)).b), .int .i64 (fNum (joinC z0 x1) (eachOf vMid (joinL z0 x1)).i), .int .i64 (fNum (joinC z0 x1) (eachOf vMid (joinL z0 x1)).h)]).below hb5
  clear kbw lbw
  go_wp2_with fail
  refine (toFootS_any _ _ _ _ _ (hr0.below H5) (by omega)).mono ?_
  rintro e w6 ⟨Ay, cy, rfl, oy_6, hb6⟩
  have H6 := Bl.then H5 hb6
  have s6 : w5.heap.size ≤ w6.heap.size := hb6.size
  have ox_6 := own_below ox_5 hb6
  have Bw_6 := Bw_5.below hb6
  have Bg_6 := Bg_5.below hb6
  have Ly := Lib.hid oy_6.lt
  go_wp2_with fail
  refine (eqFootS_same _ _ _ _ _ _ _ (Rd.of_own ox_6) (Rd.of_own oy_6) (by omega)).mono ?_
  rintro e w7 ⟨rfl, hb7⟩
  have H7 := Bl.then H6 hb7
  have s7 : w6.heap.size ≤ w7.heap.size := hb7.size
  have ox_7 := own_below ox_6 hb7
  have oy_7 := own_below oy_6 hb7
  have Bw_7 := Bw_6.below hb7
  have Bg_7 := Bg_6.below hb7
  go_wp2_with fail
  go_ret
  exact ⟨rfl, Bl.then (by go_grown) H7⟩

/-! ### The row: the argument opened, the walk, and everything read again behind it. -/
set_option maxRecDepth 100000 in
theorem lifted (os : Os) (started : os.Started) (H : Type) (enc : TypeId × Value → H) :
    ReturnsInHanded {} Try.checked os 3 .any (Rows.fnExactJoinFeetSpec.pre6 enc Try.prog Try.f3 Rows.fnExactJoinFeetRow.domain false) (Rows.fnExactJoinFeetSpec.post enc Try.prog Try.f3 false true false false) := by
  refine returnsInHanded_of_change (C := Try.checked) own started (by kernel_rfl) Try.func3
    (ChangeSpec.witness6 (enc := enc) (C := Try.checked) false ⟨#[], #[.slice none 0 0, .int .i64 0], []⟩ 8 (by kernel_rfl) (by kernel_rfl) (by kernel_rfl) (by kernel_rfl)) ?_
  intro W base args ds gs before hval0 hW hcnd _
  have hval : ∀ (j : Nat) t v, Try.f3.params[j]? = some t → args[j]? = some v → Value.okWide Try.prog W .any base t v := hval0
  have hW' := hW
  obtain ⟨p, q, hA0, hV, rfl, hfz, hnd⟩ := hW
  have hA : DataW.TrodAll enc Try.prog W 0 (fun _ => true) true Try.f3.params.toList args.toList ds p := hA0
  rw [Try.params3] at hA hval
  obtain ⟨v0, vs0, d0, ds0, p0, q0, hargs, rfl, rfl, h0, r0⟩ := trodAll_cons hA
  obtain ⟨v1, vs1, d1, ds1, p1, q1, rfl, rfl, rfl, h1, r1⟩ := trodAll_cons r0
  obtain ⟨rfl, rfl, rfl⟩ := trodAll_nil r1
  obtain rfl : args = #[v0, v1] := by cases args; simp_all
  obtain ⟨rfl, rfl⟩ := trodVars_none hV
  have k0 := h0
  have lt0 : ∀ x ∈ p0, x.block < W.heap.size := by obtain ⟨m, hm⟩ := k0; exact DataW.trod_lt m _ _ _ hm
  have k1 := h1
  have lt1 : ∀ x ∈ p1, x.block < W.heap.size := by obtain ⟨m, hm⟩ := k1; exact DataW.trod_lt m _ _ _ hm
  obtain ⟨A0, n0, m0, rfl⟩ := okWide_slice Try.underlying22 (hval 0 22 v0 rfl rfl)
  obtain ⟨z0, hr0, hn0⟩ := open_FootS h0
  obtain ⟨x1, rfl, rfl, rfl, wf1⟩ := open_int Try.underlying2 (hval 1 2 v1 rfl rfl) h1
  clear hA0 hval0
  refine (walk A0 n0 m0 z0 x1 W hr0 hn0).mono fun e W' ⟨he, bel⟩ => ?_
  subst he
  exact ⟨_, rfl, _, _, _, [], _, [], hW', trodAll_mk1 (shut_bool Try.underlying4 _), (trodAll_cons_mk (Below.trod laidOut (by kernel_rfl) (of_decide_eq_true (by kernel_rfl)) k0 bel lt0) (trodAll_cons_mk (Below.trod laidOut (by kernel_rfl) (of_decide_eq_true (by kernel_rfl)) k1 bel lt1) trodAll_mk0)), rfl, bel.frame _, fun h => by cases h⟩

theorem over : Rows.fnExactJoinFeetRow.holds Try.pinned (OpenSpec.ofChange Rows.fnExactJoinFeetSpec) :=
  OpenClaim.holds_of_wide 3 Try.f3 rfl rfl rfl rfl rfl rfl rfl ⟨rfl, rfl, rfl, rfl, rfl⟩ rfl rfl rfl rfl rfl (by kernel_rfl) Try.func3 (by kernel_rfl)
    (of_decide_eq_true (by kernel_rfl)) (by unfold Func.isWrapper; first | (rw [if_pos (by decide +kernel)]; kernel_rfl) | (rw [if_neg (by decide +kernel)]; exact ⟨rfl, rfl⟩))
    (fun os started H enc _ => lifted os started H enc)

theorem proved : Rows.FnExactJoinFeetSaid := over
end Go.Proofs.Ytlbgognkaolamaa.lawJoinFeet
