/-
  The law FnExactGradeSet: the program's GradeSet returns what the reference's returns; for all arguments, no condition.
-/
import Derived.Test.YtlbgognkaolamaaOpen
import Derived.Test.YtlbgognkaolamaaTo
import Derived.Test.YtlbgognkaolamaaMark
import Derived.Test.YtlbgognkaolamaaApp2
import Derived.Test.YtlbgognkaolamaaGset
import Derived.ProofKit
import Derived.OpenShut
import Derived.ShutString
import Derived.ChangeOld
import Derived.Deep.RegionHeld3
namespace Go.Proofs.Ytlbgognkaolamaa.lawGradeSet
open Go.ChangeShapes Go.WideShapes Go.ChangeAt Go.RowKit
set_option linter.unusedVariables false

set_option maxRecDepth 100000 in
set_option maxHeartbeats 6400000 in
theorem walk (s0 : ByteArray) (a0 b0 c0 d0 e0 : Int) (a1 b1 c1 d1 e1 : Int) (x2 : Int) (x3 : Int) (w : World) (hs0 : s0.size ≤ maxLen) :
    Calls Try.prog 4 #[.agg #[.string s0, .int .i64 a0, .int .i64 b0, .int .i64 c0, .int .i64 d0, .int .i64 e0], .agg #[.int .i64 a1, .int .i64 b1, .int .i64 c1, .int .i64 d1, .int .i64 e1], .int .i64 x2, .int .i64 x3] w fun e w' => e = .returned (.bool true) ∧ Below w.heap.size w w' := by
  have hlen : (gsR (⟨s0, a0, b0, c0, d0, e0⟩ : LastD) a1 b1 c1 d1 e1 x2 x3).1.length ≤ 1048576 := gsR_len _ _ _ _ _ _ _ _
  go_enter Try.func4, Try.ntmps4
  have HW := Below.refl w.heap.size w
  go_wp2_with fail
  have BF := ((Blk.new w 34 #[.string s0, .int .i64 a0, .int .i64 b0, .int .i64 c0, .int .i64 d0, .int .i64 e0]).alloc (.cells #[.int .i64 a1, .int .i64 b1, .int .i64 c1, .int .i64 d1, .int .i64 e1] 36))
  have BQ := (Blk.new1 w (.cells #[.string s0, .int .i64 a0, .int .i64 b0, .int .i64 c0, .int .i64 d0, .int .i64 e0] 34) 36 #[.int .i64 a1, .int .i64 b1, .int .i64 c1, .int .i64 d1, .int .i64 e1])
  replace HW : Below w.heap.size w ((w.alloc (.cells #[.string s0, .int .i64 a0, .int .i64 b0, .int .i64 c0, .int .i64 d0, .int .i64 e0] 34)).alloc (.cells #[.int .i64 a1, .int .i64 b1, .int .i64 c1, .int .i64 d1, .int .i64 e1] 36)) := by go_grown
  generalize ((w.alloc (.cells #[.string s0, .int .i64 a0, .int .i64 b0, .int .i64 c0, .int .i64 d0, .int .i64 e0] 34)).alloc (.cells #[.int .i64 a1, .int .i64 b1, .int .i64 c1, .int .i64 d1, .int .i64 e1] 36)) = wA at *
  generalize w.heap.size + 1 = gA1 at *
  have zA := HW.size
  have kF := BF.cell
  have lF := BF.lt
  have kQ := BQ.cell
  have lQ := BQ.lt
  by_cases hbig0 : (1048576 : Int) < (s0.size : Int)
  · go_wp2_with fail
    refine (szLast_big _ _ _ _ _ _ _ _ (by omega) (by omega) (by omega) hs0).mono ?_
    rintro e w1 ⟨rfl, hb1⟩
    clear kF lF kQ lQ
    replace BF := BF.below hb1
    replace BQ := BQ.below hb1
    replace HW := Bl.then HW hb1
    have zw1 : wA.heap.size ≤ w1.heap.size := hb1.size
    clear hb1
    have kF := BF.cell
    have lF := BF.lt
    have kQ := BQ.cell
    have lQ := BQ.lt
    go_wp2_with fail
    go_ret
    exact ⟨rfl, HW⟩
  have hb0 : ¬ (1048576 - (s0.size : Int)) < 0 := by omega
  go_wp2_with fail
  refine (szLast_ok _ _ _ _ _ _ _ _ (by omega) (by omega)).mono ?_
  rintro e w1 ⟨rfl, hb1⟩
  clear kF lF kQ lQ
  replace BF := BF.below hb1
  replace BQ := BQ.below hb1
  replace HW := Bl.then HW hb1
  have zw1 : wA.heap.size ≤ w1.heap.size := hb1.size
  clear hb1
  have kF := BF.cell
  have lF := BF.lt
  have kQ := BQ.cell
  have lQ := BQ.lt
  go_wp2_with fail
  refine wp_region_held_drew (S := (fun wz => Below w1.heap.size w1 wz ∧ ∀ b o, b < w1.heap.size → wz.cell? ⟨b, o, none⟩ = w1.cell? ⟨b, o, none⟩)) (by kernel_rfl) (old_of (Below.drew (Below.refl _ _))) (fun hHeld => ?_)
  refine wpAnyH_take (i := 0) (oi := ?_) (v := ?_) ?_ (by kernel_rfl) (by kernel_rfl) (by kernel_rfl) ?_ (Or.inl ⟨?_, ?_⟩) (by assumption) ?_
  rotate_left 2
  · (simp only [List.getElem?_toArray, List.getElem?_cons_zero]; rfl)
  · exact fun _ _ _ h => h
  · rfl
  · intro w hSw
    (try dsimp only at hSw)
    go_simp
    try with_reducible rfl
  simp only [put_arr, List.set_cons_zero, List.set_cons_succ]
  refine wpAnyH_take (i := 2) (oi := ?_) (v := ?_) ?_ (by kernel_rfl) (by kernel_rfl) (by kernel_rfl) ?_ (Or.inl ⟨?_, ?_⟩) (by assumption) ?_
  rotate_left 2
  · (simp only [List.getElem?_toArray, List.getElem?_cons_zero, List.getElem?_cons_succ]; rfl)
  · exact fun _ _ _ h => h
  · rfl
  · intro w hSw
    (try dsimp only at hSw)
    go_simp
    try with_reducible rfl
  simp only [put_arr, List.set_cons_zero, List.set_cons_succ]
  refine wpAnyH_take (i := 4) (oi := ?_) (v := ?_) ?_ (by kernel_rfl) (by kernel_rfl) (by kernel_rfl) ?_ (Or.inl ⟨?_, ?_⟩) (by assumption) ?_
  rotate_left 2
  · (simp only [List.getElem?_toArray, List.getElem?_cons_zero, List.getElem?_cons_succ]; rfl)
  · exact fun _ _ _ h => h
  · rfl
  · intro w hSw
    (try dsimp only at hSw)
    go_simp
    try with_reducible rfl
  simp only [put_arr, List.set_cons_zero, List.set_cons_succ]
  refine wpAnyH_take (i := 5) (oi := ?_) (v := ?_) ?_ (by kernel_rfl) (by kernel_rfl) (by kernel_rfl) ?_ (Or.inl ⟨?_, ?_⟩) (by assumption) ?_
  rotate_left 2
  · (simp only [List.getElem?_toArray, List.getElem?_cons_zero, List.getElem?_cons_succ]; rfl)
  · exact fun _ _ _ h => h
  · rfl
  · intro w hSw
    (try dsimp only at hSw)
    go_simp
    try with_reducible rfl
  simp only [put_arr, List.set_cons_zero, List.set_cons_succ]
  refine wpAnyH_ready (rs := [1]) (by kernel_rfl) (by simp) ?_
  refine AllReadyH.cons (o := ?_) ?_ (fun K hK => ?_) AllReadyH.nil
  rotate_left
  · (simp only [List.getElem?_toArray, List.getElem?_cons_zero, List.getElem?_cons_succ]; rfl)
  rw [if_pos (by rfl)]
  go_simp
  (with_reducible refine (toLast_any _ _ _ _ _ _ _).mono ?_)
  rintro e w2 ⟨rfl, hb2⟩
  have y2 : w1.heap.size ≤ w2.heap.size := Nat.le_trans hHeld.1.size hb2.size
  have ya2 := (hHeld.1).size
  have yb2 := hb2.size
  have HZ2 := Bl.then (w := w1) hHeld.1 hb2
  go_wp2_with fail
  refine hK.out _ _ (old_of HZ2) (fun hHeld2 => ?_)
  clear hK K hHeld
  have hHeld := hHeld2
  clear hHeld2
  refine wpAnyH_ready (rs := [3]) (by kernel_rfl) (by simp) ?_
  refine AllReadyH.cons (o := ?_) ?_ (fun K hK => ?_) AllReadyH.nil
  rotate_left
  · (simp only [List.getElem?_toArray, List.getElem?_cons_zero, List.getElem?_cons_succ]; rfl)
  rw [if_pos (by rfl)]
  go_simp
  (with_reducible refine (toGrade_any _ _ _ _ _ _).mono ?_)
  rintro e w3 ⟨rfl, hb3⟩
  have y3 : w1.heap.size ≤ w3.heap.size := Nat.le_trans HZ2.size hb3.size
  have ya3 := (HZ2).size
  have yb3 := hb3.size
  have HZ3 := Bl.then (w := w1) HZ2 hb3
  go_wp2_with fail
  refine hK.out _ _ (old_of HZ3) (fun hHeld2 => ?_)
  clear hK K hHeld
  have hHeld := hHeld2
  clear hHeld2
  refine wpAnyH_ready (rs := [6]) (by kernel_rfl) (by simp) ?_
  refine AllReadyH.cons (o := ?_) ?_ (fun K hK => ?_) AllReadyH.nil
  rotate_left
  · (simp only [List.getElem?_toArray, List.getElem?_cons_zero, List.getElem?_cons_succ]; rfl)
  rw [if_pos (by rfl)]
  go_simp
  (with_reducible refine (sGradeSet_any (⟨s0, a0, b0, c0, d0, e0⟩ : LastD) _ _ _ _ _ _ _ _ hs0).mono ?_)
  rintro e w4 ⟨Aw, cw, rfl, ow, hb4⟩
  have y4 : w1.heap.size ≤ w4.heap.size := Nat.le_trans HZ3.size hb4.size
  have ya4 := (HZ3).size
  have yb4 := hb4.size
  have Lw := Lib.hid ow.lt
  have HZ4 := Bl.then (w := w1) HZ3 hb4
  go_wp2_with fail
  refine hK.out _ _ (old_of HZ4) (fun hHeld2 => ?_)
  clear hK K hHeld
  have hHeld := hHeld2
  clear hHeld2
  refine wpAnyH_take (i := 7) (oi := ?_) (v := ?_) ?_ (by kernel_rfl) (by kernel_rfl) (by kernel_rfl) ?_ (Or.inl ⟨?_, ?_⟩) (by assumption) ?_
  rotate_left 2
  · (simp only [List.getElem?_toArray, List.getElem?_cons_zero, List.getElem?_cons_succ]; rfl)
  · exact fun _ _ _ h => h
  · rfl
  · intro w hSw
    (try dsimp only at hSw)
    go_simp
    try with_reducible rfl
  simp only [put_arr, List.set_cons_zero, List.set_cons_succ]
  refine wpAnyH_take (i := 8) (oi := ?_) (v := ?_) ?_ (by kernel_rfl) (by kernel_rfl) (by kernel_rfl) ?_ (Or.inl ⟨?_, ?_⟩) (by assumption) ?_
  rotate_left 2
  · (simp only [List.getElem?_toArray, List.getElem?_cons_zero, List.getElem?_cons_succ]; rfl)
  · exact fun _ _ _ h => h
  · rfl
  · intro w hSw
    (try dsimp only at hSw)
    go_simp
    try with_reducible rfl
  simp only [put_arr, List.set_cons_zero, List.set_cons_succ]
  refine wpAnyH_take (i := 9) (oi := ?_) (v := ?_) ?_ (by kernel_rfl) (by kernel_rfl) (by kernel_rfl) ?_ (Or.inl ⟨?_, ?_⟩) (by assumption) ?_
  rotate_left 2
  · (simp only [List.getElem?_toArray, List.getElem?_cons_zero, List.getElem?_cons_succ]; rfl)
  · exact fun _ _ _ h => h
  · rfl
  · intro w hSw
    (try dsimp only at hSw)
    go_simp
    try with_reducible rfl
  simp only [put_arr, List.set_cons_zero, List.set_cons_succ]
  refine wpAnyH_take (i := 10) (oi := ?_) (v := ?_) ?_ (by kernel_rfl) (by kernel_rfl) (by kernel_rfl) ?_ (Or.inl ⟨?_, ?_⟩) (by assumption) ?_
  rotate_left 2
  · (simp only [List.getElem?_toArray, List.getElem?_cons_zero, List.getElem?_cons_succ]; rfl)
  · exact fun _ _ _ h => h
  · rfl
  · intro w hSw
    (try dsimp only at hSw)
    go_simp
    try with_reducible rfl
  simp only [put_arr, List.set_cons_zero, List.set_cons_succ]
  refine wpAnyH_take (i := 11) (oi := ?_) (v := ?_) ?_ (by kernel_rfl) (by kernel_rfl) (by kernel_rfl) ?_ (Or.inl ⟨?_, ?_⟩) (by assumption) ?_
  rotate_left 2
  · (simp only [List.getElem?_toArray, List.getElem?_cons_zero, List.getElem?_cons_succ]; rfl)
  · exact fun _ _ _ h => h
  · rfl
  · intro w hSw
    (try dsimp only at hSw)
    go_simp
    try with_reducible rfl
  simp only [put_arr, List.set_cons_zero, List.set_cons_succ]
  refine wpAnyH_done (by kernel_rfl) ?_ _
  clear hHeld
  clear kF lF kQ lQ
  replace BF := BF.below HZ4
  replace BQ := BQ.below HZ4
  replace HW := Bl.then HW HZ4
  have zw4 : w1.heap.size ≤ w4.heap.size := HZ4.size
  have kF := BF.cell
  have lF := BF.lt
  have kQ := BQ.cell
  have lQ := BQ.lt
  go_wp2_with fail
  refine wp_region_held_drew (S := (fun wz => Below w4.heap.size w4 wz ∧ ∀ b o, b < w4.heap.size → wz.cell? ⟨b, o, none⟩ = w4.cell? ⟨b, o, none⟩)) (by kernel_rfl) (old_of (Below.drew (Below.refl _ _))) (fun hHeld => ?_)
  refine wpAnyH_take (i := 0) (oi := ?_) (v := ?_) ?_ (by kernel_rfl) (by kernel_rfl) (by kernel_rfl) ?_ (Or.inl ⟨?_, ?_⟩) (by assumption) ?_
  rotate_left 2
  · (simp only [List.getElem?_toArray, List.getElem?_cons_zero]; rfl)
  · exact fun _ _ _ h => h
  · rfl
  · intro w hSw
    (try dsimp only at hSw)
    go_simp
    try with_reducible rfl
  simp only [put_arr, List.set_cons_zero, List.set_cons_succ]
  refine wpAnyH_take (i := 2) (oi := ?_) (v := ?_) ?_ (by kernel_rfl) (by kernel_rfl) (by kernel_rfl) ?_ (Or.inl ⟨?_, ?_⟩) (by assumption) ?_
  rotate_left 2
  · (simp only [List.getElem?_toArray, List.getElem?_cons_zero, List.getElem?_cons_succ]; rfl)
  · exact fun _ _ _ h => h
  · rfl
  · intro w hSw
    (try dsimp only at hSw)
    go_simp
    try with_reducible rfl
  simp only [put_arr, List.set_cons_zero, List.set_cons_succ]
  refine wpAnyH_take (i := 4) (oi := ?_) (v := ?_) ?_ (by kernel_rfl) (by kernel_rfl) (by kernel_rfl) ?_ (Or.inl ⟨?_, ?_⟩) (by assumption) ?_
  rotate_left 2
  · (simp only [List.getElem?_toArray, List.getElem?_cons_zero, List.getElem?_cons_succ]; rfl)
  · exact fun _ _ _ h => h
  · rfl
  · intro w hSw
    (try dsimp only at hSw)
    go_simp
    try with_reducible rfl
  simp only [put_arr, List.set_cons_zero, List.set_cons_succ]
  refine wpAnyH_take (i := 5) (oi := ?_) (v := ?_) ?_ (by kernel_rfl) (by kernel_rfl) (by kernel_rfl) ?_ (Or.inl ⟨?_, ?_⟩) (by assumption) ?_
  rotate_left 2
  · (simp only [List.getElem?_toArray, List.getElem?_cons_zero, List.getElem?_cons_succ]; rfl)
  · exact fun _ _ _ h => h
  · rfl
  · intro w hSw
    (try dsimp only at hSw)
    go_simp
    try with_reducible rfl
  simp only [put_arr, List.set_cons_zero, List.set_cons_succ]
  refine wpAnyH_ready (rs := [1]) (by kernel_rfl) (by simp) ?_
  refine AllReadyH.cons (o := ?_) ?_ (fun K hK => ?_) AllReadyH.nil
  rotate_left
  · (simp only [List.getElem?_toArray, List.getElem?_cons_zero, List.getElem?_cons_succ]; rfl)
  rw [if_pos (by rfl)]
  go_simp
  (with_reducible refine (toLast_any _ _ _ _ _ _ _).mono ?_)
  rintro e w5 ⟨rfl, hb5⟩
  have y5 : w4.heap.size ≤ w5.heap.size := Nat.le_trans hHeld.1.size hb5.size
  have ya5 := (hHeld.1).size
  have yb5 := hb5.size
  have HZ5 := Bl.then (w := w4) hHeld.1 hb5
  go_wp2_with fail
  refine hK.out _ _ (old_of HZ5) (fun hHeld2 => ?_)
  clear hK K hHeld
  have hHeld := hHeld2
  clear hHeld2
  refine wpAnyH_ready (rs := [3]) (by kernel_rfl) (by simp) ?_
  refine AllReadyH.cons (o := ?_) ?_ (fun K hK => ?_) AllReadyH.nil
  rotate_left
  · (simp only [List.getElem?_toArray, List.getElem?_cons_zero, List.getElem?_cons_succ]; rfl)
  rw [if_pos (by rfl)]
  go_simp
  (with_reducible refine (toGrade_any _ _ _ _ _ _).mono ?_)
  rintro e w6 ⟨rfl, hb6⟩
  have y6 : w4.heap.size ≤ w6.heap.size := Nat.le_trans HZ5.size hb6.size
  have ya6 := (HZ5).size
  have yb6 := hb6.size
  have HZ6 := Bl.then (w := w4) HZ5 hb6
  go_wp2_with fail
  refine hK.out _ _ (old_of HZ6) (fun hHeld2 => ?_)
  clear hK K hHeld
  have hHeld := hHeld2
  clear hHeld2
  refine wpAnyH_ready (rs := [6]) (by kernel_rfl) (by simp) ?_
  refine AllReadyH.cons (o := ?_) ?_ (fun K hK => ?_) AllReadyH.nil
  rotate_left
  · (simp only [List.getElem?_toArray, List.getElem?_cons_zero, List.getElem?_cons_succ]; rfl)
  rw [if_pos (by rfl)]
  go_simp
  (with_reducible refine (GradeSet_any (⟨s0, a0, b0, c0, d0, e0⟩ : LastD) _ _ _ _ _ _ _ _ hs0).mono ?_)
  rintro e w7 ⟨Ag, cg, rfl, og, hb7⟩
  have y7 : w4.heap.size ≤ w7.heap.size := Nat.le_trans HZ6.size hb7.size
  have ya7 := (HZ6).size
  have yb7 := hb7.size
  have Lg := Lib.hid og.lt
  have HZ7 := Bl.then (w := w4) HZ6 hb7
  go_wp2_with fail
  refine hK.out _ _ (old_of HZ7) (fun hHeld2 => ?_)
  clear hK K hHeld
  have hHeld := hHeld2
  clear hHeld2
  refine wpAnyH_take (i := 7) (oi := ?_) (v := ?_) ?_ (by kernel_rfl) (by kernel_rfl) (by kernel_rfl) ?_ (Or.inl ⟨?_, ?_⟩) (by assumption) ?_
  rotate_left 2
  · (simp only [List.getElem?_toArray, List.getElem?_cons_zero, List.getElem?_cons_succ]; rfl)
  · exact fun _ _ _ h => h
  · rfl
  · intro w hSw
    (try dsimp only at hSw)
    go_simp
    try with_reducible rfl
  simp only [put_arr, List.set_cons_zero, List.set_cons_succ]
  refine wpAnyH_take (i := 8) (oi := ?_) (v := ?_) ?_ (by kernel_rfl) (by kernel_rfl) (by kernel_rfl) ?_ (Or.inl ⟨?_, ?_⟩) (by assumption) ?_
  rotate_left 2
  · (simp only [List.getElem?_toArray, List.getElem?_cons_zero, List.getElem?_cons_succ]; rfl)
  · exact fun _ _ _ h => h
  · rfl
  · intro w hSw
    (try dsimp only at hSw)
    go_simp
    try with_reducible rfl
  simp only [put_arr, List.set_cons_zero, List.set_cons_succ]
  refine wpAnyH_take (i := 9) (oi := ?_) (v := ?_) ?_ (by kernel_rfl) (by kernel_rfl) (by kernel_rfl) ?_ (Or.inl ⟨?_, ?_⟩) (by assumption) ?_
  rotate_left 2
  · (simp only [List.getElem?_toArray, List.getElem?_cons_zero, List.getElem?_cons_succ]; rfl)
  · exact fun _ _ _ h => h
  · rfl
  · intro w hSw
    (try dsimp only at hSw)
    go_simp
    try with_reducible rfl
  simp only [put_arr, List.set_cons_zero, List.set_cons_succ]
  refine wpAnyH_take (i := 10) (oi := ?_) (v := ?_) ?_ (by kernel_rfl) (by kernel_rfl) (by kernel_rfl) ?_ (Or.inl ⟨?_, ?_⟩) (by assumption) ?_
  rotate_left 2
  · (simp only [List.getElem?_toArray, List.getElem?_cons_zero, List.getElem?_cons_succ]; rfl)
  · exact fun _ _ _ h => h
  · rfl
  · intro w hSw
    (try dsimp only at hSw)
    go_simp
    try with_reducible rfl
  simp only [put_arr, List.set_cons_zero, List.set_cons_succ]
  refine wpAnyH_take (i := 11) (oi := ?_) (v := ?_) ?_ (by kernel_rfl) (by kernel_rfl) (by kernel_rfl) ?_ (Or.inl ⟨?_, ?_⟩) (by assumption) ?_
  rotate_left 2
  · (simp only [List.getElem?_toArray, List.getElem?_cons_zero, List.getElem?_cons_succ]; rfl)
  · exact fun _ _ _ h => h
  · rfl
  · intro w hSw
    (try dsimp only at hSw)
    go_simp
    try with_reducible rfl
  simp only [put_arr, List.set_cons_zero, List.set_cons_succ]
  refine wpAnyH_done (by kernel_rfl) ?_ _
  clear hHeld
  clear kF lF kQ lQ
  replace BF := BF.below HZ7
  replace BQ := BQ.below HZ7
  replace ow := own_below ow HZ7
  replace HW := Bl.then HW HZ7
  have zw7 : w4.heap.size ≤ w7.heap.size := HZ7.size
  have kF := BF.cell
  have lF := BF.lt
  have kQ := BQ.cell
  have lQ := BQ.lt
  go_wp2_with fail
  refine (eqLastS_same _ _ _ _ _ _ _ (Rd.of_own og) (Rd.of_own ow) (by omega)).mono ?_
  rintro e w8 ⟨rfl, hb8⟩
  clear kF lF kQ lQ
  replace BF := BF.below hb8
  replace BQ := BQ.below hb8
  replace ow := own_below ow hb8
  replace og := own_below og hb8
  replace HW := Bl.then HW hb8
  have zw8 : w7.heap.size ≤ w8.heap.size := hb8.size
  clear hb8
  have kF := BF.cell
  have lF := BF.lt
  have kQ := BQ.cell
  have lQ := BQ.lt
  go_wp2_with fail
  refine (markLastS_any _ _ _ _ _ _ _ og (by omega) (by omega)).mono ?_
  rintro e w9 ⟨rfl, ug, mg, pg, hg9⟩
  clear kF lF kQ lQ
  replace ow := keep_own ow hg9 (dis_of Lw Lg (by omega))
  replace BF := blk_keep BF hg9 og (by decide)
  replace BQ := blk_keep BQ hg9 og (by decide)
  replace HW := HW.grown hg9 HW.size (fun q hq => Nat.le_trans (by omega) (og.lt q hq).1)
  have zw9 : w8.heap.size ≤ w9.heap.size := hg9.size
  replace og := pg
  clear pg hg9
  have kF := BF.cell
  have lF := BF.lt
  have kQ := BQ.cell
  have lQ := BQ.lt
  go_wp2_with fail
  refine (heldLastS_any _ _ _ _ _ _ (Rd.of_own og) mg (by omega) (by omega)).mono ?_
  rintro e w10 ⟨rfl, hb10⟩
  clear kF lF kQ lQ
  replace BF := BF.below hb10
  replace BQ := BQ.below hb10
  replace ow := own_below ow hb10
  replace og := own_below og hb10
  replace HW := Bl.then HW hb10
  have zw10 : w9.heap.size ≤ w10.heap.size := hb10.size
  clear hb10
  have kF := BF.cell
  have lF := BF.lt
  have kQ := BQ.cell
  have lQ := BQ.lt
  go_wp2_with fail
  refine wp_region_held_drew (S := (fun wz => Below w10.heap.size w10 wz ∧ ∀ b o, b < w10.heap.size → wz.cell? ⟨b, o, none⟩ = w10.cell? ⟨b, o, none⟩)) (by kernel_rfl) (old_of (Below.drew (Below.refl _ _))) (fun hHeld => ?_)
  refine wpAnyH_take (i := 0) (oi := ?_) (v := ?_) ?_ (by kernel_rfl) (by kernel_rfl) (by kernel_rfl) ?_ (Or.inl ⟨?_, ?_⟩) (by assumption) ?_
  rotate_left 2
  · (simp only [List.getElem?_toArray, List.getElem?_cons_zero]; rfl)
  · exact fun _ _ _ h => h
  · rfl
  · intro w hSw
    (try dsimp only at hSw)
    go_simp
    try with_reducible rfl
  simp only [put_arr, List.set_cons_zero, List.set_cons_succ]
  refine wpAnyH_take (i := 2) (oi := ?_) (v := ?_) ?_ (by kernel_rfl) (by kernel_rfl) (by kernel_rfl) ?_ (Or.inl ⟨?_, ?_⟩) (by assumption) ?_
  rotate_left 2
  · (simp only [List.getElem?_toArray, List.getElem?_cons_zero, List.getElem?_cons_succ]; rfl)
  · exact fun _ _ _ h => h
  · rfl
  · intro w hSw
    (try dsimp only at hSw)
    go_simp
    try with_reducible rfl
  simp only [put_arr, List.set_cons_zero, List.set_cons_succ]
  refine wpAnyH_take (i := 4) (oi := ?_) (v := ?_) ?_ (by kernel_rfl) (by kernel_rfl) (by kernel_rfl) ?_ (Or.inl ⟨?_, ?_⟩) (by assumption) ?_
  rotate_left 2
  · (simp only [List.getElem?_toArray, List.getElem?_cons_zero, List.getElem?_cons_succ]; rfl)
  · exact fun _ _ _ h => h
  · rfl
  · intro w hSw
    (try dsimp only at hSw)
    go_simp
    try with_reducible rfl
  simp only [put_arr, List.set_cons_zero, List.set_cons_succ]
  refine wpAnyH_take (i := 5) (oi := ?_) (v := ?_) ?_ (by kernel_rfl) (by kernel_rfl) (by kernel_rfl) ?_ (Or.inl ⟨?_, ?_⟩) (by assumption) ?_
  rotate_left 2
  · (simp only [List.getElem?_toArray, List.getElem?_cons_zero, List.getElem?_cons_succ]; rfl)
  · exact fun _ _ _ h => h
  · rfl
  · intro w hSw
    (try dsimp only at hSw)
    go_simp
    try with_reducible rfl
  simp only [put_arr, List.set_cons_zero, List.set_cons_succ]
  refine wpAnyH_ready (rs := [1]) (by kernel_rfl) (by simp) ?_
  refine AllReadyH.cons (o := ?_) ?_ (fun K hK => ?_) AllReadyH.nil
  rotate_left
  · (simp only [List.getElem?_toArray, List.getElem?_cons_zero, List.getElem?_cons_succ]; rfl)
  rw [if_pos (by rfl)]
  go_simp
  (with_reducible refine (toLast_any _ _ _ _ _ _ _).mono ?_)
  rintro e w11 ⟨rfl, hb11⟩
  have y11 : w10.heap.size ≤ w11.heap.size := Nat.le_trans hHeld.1.size hb11.size
  have ya11 := (hHeld.1).size
  have yb11 := hb11.size
  have HZ11 := Bl.then (w := w10) hHeld.1 hb11
  go_wp2_with fail
  refine hK.out _ _ (old_of HZ11) (fun hHeld2 => ?_)
  clear hK K hHeld
  have hHeld := hHeld2
  clear hHeld2
  refine wpAnyH_ready (rs := [3]) (by kernel_rfl) (by simp) ?_
  refine AllReadyH.cons (o := ?_) ?_ (fun K hK => ?_) AllReadyH.nil
  rotate_left
  · (simp only [List.getElem?_toArray, List.getElem?_cons_zero, List.getElem?_cons_succ]; rfl)
  rw [if_pos (by rfl)]
  go_simp
  (with_reducible refine (toGrade_any _ _ _ _ _ _).mono ?_)
  rintro e w12 ⟨rfl, hb12⟩
  have y12 : w10.heap.size ≤ w12.heap.size := Nat.le_trans HZ11.size hb12.size
  have ya12 := (HZ11).size
  have yb12 := hb12.size
  have HZ12 := Bl.then (w := w10) HZ11 hb12
  go_wp2_with fail
  refine hK.out _ _ (old_of HZ12) (fun hHeld2 => ?_)
  clear hK K hHeld
  have hHeld := hHeld2
  clear hHeld2
  refine wpAnyH_ready (rs := [6]) (by kernel_rfl) (by simp) ?_
  refine AllReadyH.cons (o := ?_) ?_ (fun K hK => ?_) AllReadyH.nil
  rotate_left
  · (simp only [List.getElem?_toArray, List.getElem?_cons_zero, List.getElem?_cons_succ]; rfl)
  rw [if_pos (by rfl)]
  go_simp
  (with_reducible refine (GradeSet_any (⟨s0, a0, b0, c0, d0, e0⟩ : LastD) _ _ _ _ _ _ _ _ hs0).mono ?_)
  rintro e w13 ⟨Ak, ck, rfl, ok, hb13⟩
  have y13 : w10.heap.size ≤ w13.heap.size := Nat.le_trans HZ12.size hb13.size
  have ya13 := (HZ12).size
  have yb13 := hb13.size
  have Lk := Lib.hid ok.lt
  have HZ13 := Bl.then (w := w10) HZ12 hb13
  go_wp2_with fail
  refine hK.out _ _ (old_of HZ13) (fun hHeld2 => ?_)
  clear hK K hHeld
  have hHeld := hHeld2
  clear hHeld2
  refine wpAnyH_take (i := 7) (oi := ?_) (v := ?_) ?_ (by kernel_rfl) (by kernel_rfl) (by kernel_rfl) ?_ (Or.inl ⟨?_, ?_⟩) (by assumption) ?_
  rotate_left 2
  · (simp only [List.getElem?_toArray, List.getElem?_cons_zero, List.getElem?_cons_succ]; rfl)
  · exact fun _ _ _ h => h
  · rfl
  · intro w hSw
    (try dsimp only at hSw)
    go_simp
    try with_reducible rfl
  simp only [put_arr, List.set_cons_zero, List.set_cons_succ]
  refine wpAnyH_take (i := 8) (oi := ?_) (v := ?_) ?_ (by kernel_rfl) (by kernel_rfl) (by kernel_rfl) ?_ (Or.inl ⟨?_, ?_⟩) (by assumption) ?_
  rotate_left 2
  · (simp only [List.getElem?_toArray, List.getElem?_cons_zero, List.getElem?_cons_succ]; rfl)
  · exact fun _ _ _ h => h
  · rfl
  · intro w hSw
    (try dsimp only at hSw)
    go_simp
    try with_reducible rfl
  simp only [put_arr, List.set_cons_zero, List.set_cons_succ]
  refine wpAnyH_take (i := 9) (oi := ?_) (v := ?_) ?_ (by kernel_rfl) (by kernel_rfl) (by kernel_rfl) ?_ (Or.inl ⟨?_, ?_⟩) (by assumption) ?_
  rotate_left 2
  · (simp only [List.getElem?_toArray, List.getElem?_cons_zero, List.getElem?_cons_succ]; rfl)
  · exact fun _ _ _ h => h
  · rfl
  · intro w hSw
    (try dsimp only at hSw)
    go_simp
    try with_reducible rfl
  simp only [put_arr, List.set_cons_zero, List.set_cons_succ]
  refine wpAnyH_take (i := 10) (oi := ?_) (v := ?_) ?_ (by kernel_rfl) (by kernel_rfl) (by kernel_rfl) ?_ (Or.inl ⟨?_, ?_⟩) (by assumption) ?_
  rotate_left 2
  · (simp only [List.getElem?_toArray, List.getElem?_cons_zero, List.getElem?_cons_succ]; rfl)
  · exact fun _ _ _ h => h
  · rfl
  · intro w hSw
    (try dsimp only at hSw)
    go_simp
    try with_reducible rfl
  simp only [put_arr, List.set_cons_zero, List.set_cons_succ]
  refine wpAnyH_take (i := 11) (oi := ?_) (v := ?_) ?_ (by kernel_rfl) (by kernel_rfl) (by kernel_rfl) ?_ (Or.inl ⟨?_, ?_⟩) (by assumption) ?_
  rotate_left 2
  · (simp only [List.getElem?_toArray, List.getElem?_cons_zero, List.getElem?_cons_succ]; rfl)
  · exact fun _ _ _ h => h
  · rfl
  · intro w hSw
    (try dsimp only at hSw)
    go_simp
    try with_reducible rfl
  simp only [put_arr, List.set_cons_zero, List.set_cons_succ]
  refine wpAnyH_done (by kernel_rfl) ?_ _
  clear hHeld
  clear kF lF kQ lQ
  replace BF := BF.below HZ13
  replace BQ := BQ.below HZ13
  replace ow := own_below ow HZ13
  replace og := own_below og HZ13
  replace HW := Bl.then HW HZ13
  have zw13 : w10.heap.size ≤ w13.heap.size := HZ13.size
  have kF := BF.cell
  have lF := BF.lt
  have kQ := BQ.cell
  have lQ := BQ.lt
  go_wp2_with fail
  refine (eqLastS_same _ _ _ _ _ _ _ (Rd.of_own ok) (Rd.of_own ow) (by omega)).mono ?_
  rintro e w14 ⟨rfl, hb14⟩
  clear kF lF kQ lQ
  replace BF := BF.below hb14
  replace BQ := BQ.below hb14
  replace ow := own_below ow hb14
  replace og := own_below og hb14
  replace ok := own_below ok hb14
  replace HW := Bl.then HW hb14
  have zw14 : w13.heap.size ≤ w14.heap.size := hb14.size
  clear hb14
  have kF := BF.cell
  have lF := BF.lt
  have kQ := BQ.cell
  have lQ := BQ.lt
  clear ok Lk
  clear ow Lw
  go_wp2_with fail
  refine (heldLastS_any _ _ _ _ _ _ (Rd.of_own og) mg (by omega) (by omega)).mono ?_
  rintro e w15 ⟨rfl, hb15⟩
  clear kF lF kQ lQ
  replace BF := BF.below hb15
  replace BQ := BQ.below hb15
  replace og := own_below og hb15
  replace HW := Bl.then HW hb15
  have zw15 : w14.heap.size ≤ w15.heap.size := hb15.size
  clear hb15
  have kF := BF.cell
  have lF := BF.lt
  have kQ := BQ.cell
  have lQ := BQ.lt
  go_wp2_with fail
  go_ret
  exact ⟨rfl, HW⟩

/-! ### The row: the argument opened, the walk, and everything read again behind it. -/
set_option maxRecDepth 100000 in
theorem lifted (os : Os) (started : os.Started) (H : Type) (enc : TypeId × Value → H) :
    ReturnsInHanded {} Try.checked os 4 .any (Rows.fnExactGradeSetSpec.pre6 enc Try.prog Try.f4 Rows.fnExactGradeSetRow.domain false) (Rows.fnExactGradeSetSpec.post enc Try.prog Try.f4 false true false false) := by
  refine returnsInHanded_of_change (C := Try.checked) own started (by kernel_rfl) Try.func4
    (ChangeSpec.witness6 (enc := enc) (C := Try.checked) false ⟨#[], #[.agg #[.string ByteArray.empty, .int .i64 0, .int .i64 0, .int .i64 0, .int .i64 0, .int .i64 0], .agg #[.int .i64 0, .int .i64 0, .int .i64 0, .int .i64 0, .int .i64 0], .int .i64 0, .int .i64 0], []⟩ 8 (by kernel_rfl) (by kernel_rfl) (by kernel_rfl) (by kernel_rfl)) ?_
  intro W base args ds gs before hval0 hW hcnd _
  have hval : ∀ (j : Nat) t v, Try.f4.params[j]? = some t → args[j]? = some v → Value.okWide Try.prog W .any base t v := hval0
  have hW' := hW
  obtain ⟨p, q, hA0, hV, rfl, hfz, hnd⟩ := hW
  have hA : DataW.TrodAll enc Try.prog W 0 (fun _ => true) true Try.f4.params.toList args.toList ds p := hA0
  rw [Try.params4] at hA hval
  obtain ⟨v0, vs0, d0, ds0, p0, q0, hargs, rfl, rfl, h0, r0⟩ := trodAll_cons hA
  obtain ⟨v1, vs1, d1, ds1, p1, q1, rfl, rfl, rfl, h1, r1⟩ := trodAll_cons r0
  obtain ⟨v2, vs2, d2, ds2, p2, q2, rfl, rfl, rfl, h2, r2⟩ := trodAll_cons r1
  obtain ⟨v3, vs3, d3, ds3, p3, q3, rfl, rfl, rfl, h3, r3⟩ := trodAll_cons r2
  obtain ⟨rfl, rfl, rfl⟩ := trodAll_nil r3
  obtain rfl : args = #[v0, v1, v2, v3] := by cases args; simp_all
  obtain ⟨rfl, rfl⟩ := trodVars_none hV
  have k0 := h0
  have lt0 : ∀ x ∈ p0, x.block < W.heap.size := by obtain ⟨m, hm⟩ := k0; exact DataW.trod_lt m _ _ _ hm
  have k1 := h1
  have lt1 : ∀ x ∈ p1, x.block < W.heap.size := by obtain ⟨m, hm⟩ := k1; exact DataW.trod_lt m _ _ _ hm
  have k2 := h2
  have lt2 : ∀ x ∈ p2, x.block < W.heap.size := by obtain ⟨m, hm⟩ := k2; exact DataW.trod_lt m _ _ _ hm
  have k3 := h3
  have lt3 : ∀ x ∈ p3, x.block < W.heap.size := by obtain ⟨m, hm⟩ := k3; exact DataW.trod_lt m _ _ _ hm
  obtain ⟨s0, a0, b0, c0, d0, e0, rfl, hs0, -, -, -, -, -⟩ := open_Last (hval 0 34 v0 rfl rfl) h0
  obtain ⟨a1, b1, c1, d1, e1, rfl, -, -, -, -, -⟩ := open_Grade (hval 1 36 v1 rfl rfl) h1
  obtain ⟨x2, rfl, rfl, rfl, wf2⟩ := open_int Try.underlying2 (hval 2 2 v2 rfl rfl) h2
  obtain ⟨x3, rfl, rfl, rfl, wf3⟩ := open_int Try.underlying2 (hval 3 2 v3 rfl rfl) h3
  clear hA0 hval0
  refine (walk s0 a0 b0 c0 d0 e0 a1 b1 c1 d1 e1 x2 x3 W hs0).mono fun e W' ⟨he, bel⟩ => ?_
  subst he
  exact ⟨_, rfl, _, _, _, [], _, [], hW', trodAll_mk1 (shut_bool Try.underlying4 _), (trodAll_cons_mk (Below.trod laidOut (by kernel_rfl) (of_decide_eq_true (by kernel_rfl)) k0 bel lt0) (trodAll_cons_mk (Below.trod laidOut (by kernel_rfl) (of_decide_eq_true (by kernel_rfl)) k1 bel lt1) (trodAll_cons_mk (Below.trod laidOut (by kernel_rfl) (of_decide_eq_true (by kernel_rfl)) k2 bel lt2) (trodAll_cons_mk (Below.trod laidOut (by kernel_rfl) (of_decide_eq_true (by kernel_rfl)) k3 bel lt3) trodAll_mk0)))), rfl, bel.frame _, fun h => by cases h⟩

theorem over : Rows.fnExactGradeSetRow.holds Try.pinned (OpenSpec.ofChange Rows.fnExactGradeSetSpec) :=
  OpenClaim.holds_of_wide 4 Try.f4 rfl rfl rfl rfl rfl rfl rfl ⟨rfl, rfl, rfl, rfl, rfl⟩ rfl rfl rfl rfl rfl (by kernel_rfl) Try.func4 (by kernel_rfl)
    (of_decide_eq_true (by kernel_rfl)) (by unfold Func.isWrapper; first | (rw [if_pos (by decide +kernel)]; kernel_rfl) | (rw [if_neg (by decide +kernel)]; exact ⟨rfl, rfl⟩))
    (fun os started H enc _ => lifted os started H enc)

theorem proved : Rows.FnExactGradeSetSaid := over
end Go.Proofs.Ytlbgognkaolamaa.lawGradeSet
