/-
  The law FnExactPairLast: the program's PairLast returns what the reference's returns; for all arguments, no condition.
-/
import Derived.Test.YtlbgognkaolamaaOpen
import Derived.Test.YtlbgognkaolamaaOpenS
import Derived.Test.YtlbgognkaolamaaOpenF
import Derived.Test.YtlbgognkaolamaaTo
import Derived.Test.YtlbgognkaolamaaPair
import Derived.ProofKit
import Derived.OpenShut
import Derived.ShutString
import Derived.ChangeOld
import Derived.Deep.RegionHeld3
namespace Go.Proofs.Ytlbgognkaolamaa.lawPairLast
open Go.ChangeShapes Go.WideShapes Go.ChangeAt Go.RowKit
set_option linter.unusedVariables false

set_option maxRecDepth 100000 in
set_option maxHeartbeats 6400000 in
theorem walk (A0 : Option Addr) (n0 m0 : Nat) (z0 : List LastD) (a1 b1 c1 d1 : Int) (a2 b2 c2 d2 : Int) (a3 b3 c3 : Int) (A3 : Option Addr) (n3 m3 : Nat) (z3 : List Int) (w : World) (hr0 : Rd w 6 A0 n0 (lasts z0)) (hn0 : n0 ≤ 9223372036854775807) (hx0 : ∀ x ∈ z0, x.s.size ≤ maxLen) (hr3 : Rd w 1 A3 n3 (ints z3)) (hn3 : n3 ≤ 9223372036854775807) :
    Calls Try.prog 11 #[.slice A0 n0 m0, .agg #[.int .i64 a1, .int .i64 b1, .int .i64 c1, .int .i64 d1], .agg #[.int .i64 a2, .int .i64 b2, .int .i64 c2, .int .i64 d2], .agg #[.int .i64 a3, .int .i64 b3, .int .i64 c3, .slice A3 n3 m3]] w fun e w' => e = .returned (.bool true) ∧ Below w.heap.size w w' := by
  go_enter Try.func11, Try.ntmps11
  have HW := Below.refl w.heap.size w
  go_wp2_with fail
  have BF := (((Blk.new w 57 #[.int .i64 a1, .int .i64 b1, .int .i64 c1, .int .i64 d1]).alloc (.cells #[.int .i64 a2, .int .i64 b2, .int .i64 c2, .int .i64 d2] 57)).alloc (.cells #[.int .i64 a3, .int .i64 b3, .int .i64 c3, .slice A3 n3 m3] 50))
  have BG := ((Blk.new1 w (.cells #[.int .i64 a1, .int .i64 b1, .int .i64 c1, .int .i64 d1] 57) 57 #[.int .i64 a2, .int .i64 b2, .int .i64 c2, .int .i64 d2]).alloc (.cells #[.int .i64 a3, .int .i64 b3, .int .i64 c3, .slice A3 n3 m3] 50))
  have BQ := (Blk.new2 w (.cells #[.int .i64 a1, .int .i64 b1, .int .i64 c1, .int .i64 d1] 57) (.cells #[.int .i64 a2, .int .i64 b2, .int .i64 c2, .int .i64 d2] 57) 50 #[.int .i64 a3, .int .i64 b3, .int .i64 c3, .slice A3 n3 m3])
  replace HW : Below w.heap.size w (((w.alloc (.cells #[.int .i64 a1, .int .i64 b1, .int .i64 c1, .int .i64 d1] 57)).alloc (.cells #[.int .i64 a2, .int .i64 b2, .int .i64 c2, .int .i64 d2] 57)).alloc (.cells #[.int .i64 a3, .int .i64 b3, .int .i64 c3, .slice A3 n3 m3] 50)) := by go_grown
  generalize (((w.alloc (.cells #[.int .i64 a1, .int .i64 b1, .int .i64 c1, .int .i64 d1] 57)).alloc (.cells #[.int .i64 a2, .int .i64 b2, .int .i64 c2, .int .i64 d2] 57)).alloc (.cells #[.int .i64 a3, .int .i64 b3, .int .i64 c3, .slice A3 n3 m3] 50)) = wA at *
  generalize w.heap.size + 1 + 1 = gA2 at *
  generalize w.heap.size + 1 = gA1 at *
  have zA := HW.size
  have kF := BF.cell
  have lF := BF.lt
  have kG := BG.cell
  have lG := BG.lt
  have kQ := BQ.cell
  have lQ := BQ.lt
  go_wp2_with fail
  refine (szLastS_any _ _ _ _ _ _ (hr0.below HW) hn0 hx0 (by omega) (by omega)).mono ?_
  rintro e w1 ⟨hb1, rfl | ⟨rL, rfl, ra, rb, rn⟩⟩
  · clear kF lF kG lG kQ lQ
    replace BF := BF.below hb1
    replace BG := BG.below hb1
    replace BQ := BQ.below hb1
    replace HW := Bl.then HW hb1
    have zw1 : wA.heap.size ≤ w1.heap.size := hb1.size
    have kF := BF.cell
    have lF := BF.lt
    have kG := BG.cell
    have lG := BG.lt
    have kQ := BQ.cell
    have lQ := BQ.lt
    go_wp2_with fail
    go_ret
    exact ⟨rfl, HW⟩
  clear kF lF kG lG kQ lQ
  replace BF := BF.below hb1
  replace BG := BG.below hb1
  replace BQ := BQ.below hb1
  replace HW := Bl.then HW hb1
  have zw1 : wA.heap.size ≤ w1.heap.size := hb1.size
  have kF := BF.cell
  have lF := BF.lt
  have kG := BG.cell
  have lG := BG.lt
  have kQ := BQ.cell
  have lQ := BQ.lt
  by_cases hbig1 : rL < (n3 : Int)
  · go_wp2_with fail
    refine (szFit_big _ _ _ _ _ _ _ _ (by omega) (by omega) (by omega) hn3).mono ?_
    rintro e w2 ⟨rfl, hb2⟩
    clear kF lF kG lG kQ lQ
    replace BF := BF.below hb2
    replace BG := BG.below hb2
    replace BQ := BQ.below hb2
    replace HW := Bl.then HW hb2
    have zw2 : w1.heap.size ≤ w2.heap.size := hb2.size
    clear hb2
    have kF := BF.cell
    have lF := BF.lt
    have kG := BG.cell
    have lG := BG.lt
    have kQ := BQ.cell
    have lQ := BQ.lt
    go_wp2_with fail
    go_ret
    exact ⟨rfl, HW⟩
  have hs0 : n0 ≤ 1048576 := by omega
  have hs3 : n3 ≤ 1048576 := by omega
  go_wp2_with fail
  refine (szFit_ok _ _ _ _ _ _ _ _ (by omega) (by omega)).mono ?_
  rintro e w2 ⟨rfl, hb2⟩
  clear kF lF kG lG kQ lQ
  replace BF := BF.below hb2
  replace BG := BG.below hb2
  replace BQ := BQ.below hb2
  replace HW := Bl.then HW hb2
  have zw2 : w1.heap.size ≤ w2.heap.size := hb2.size
  clear hb2
  have kF := BF.cell
  have lF := BF.lt
  have kG := BG.cell
  have lG := BG.lt
  have kQ := BQ.cell
  have lQ := BQ.lt
  go_wp2_with fail
  refine wp_region_held_drew (S := (fun wz => Below w2.heap.size w2 wz ∧ ∀ b o, b < w2.heap.size → wz.cell? ⟨b, o, none⟩ = w2.cell? ⟨b, o, none⟩)) (by kernel_rfl) (old_of (Below.drew (Below.refl _ _))) (fun hHeld => ?_)
  refine wpAnyH_take (i := 0) (oi := ?_) (v := ?_) ?_ (by kernel_rfl) (by kernel_rfl) (by kernel_rfl) ?_ (Or.inl ⟨?_, ?_⟩) (by assumption) ?_
  rotate_left 2
  · (simp only [List.getElem?_toArray, List.getElem?_cons_zero]; rfl)
  · exact fun _ _ _ h => h
  · rfl
  · intro w hSw
    (try dsimp only at hSw)
    go_simp
    try with_reducible rfl
  simp only [put_arr, List.set_cons_zero, List.set_cons_succ]
  refine wpAnyH_take (i := 2) (oi := ?_) (v := ?_) ?_ (by kernel_rfl) (by kernel_rfl) (by kernel_rfl) ?_ (Or.inl ⟨?_, ?_⟩) (by assumption) ?_
  rotate_left 2
  · (simp only [List.getElem?_toArray, List.getElem?_cons_zero, List.getElem?_cons_succ]; rfl)
  · exact fun _ _ _ h => h
  · rfl
  · intro w hSw
    (try dsimp only at hSw)
    go_simp
    try with_reducible rfl
  simp only [put_arr, List.set_cons_zero, List.set_cons_succ]
  refine wpAnyH_take (i := 4) (oi := ?_) (v := ?_) ?_ (by kernel_rfl) (by kernel_rfl) (by kernel_rfl) ?_ (Or.inl ⟨?_, ?_⟩) (by assumption) ?_
  rotate_left 2
  · (simp only [List.getElem?_toArray, List.getElem?_cons_zero, List.getElem?_cons_succ]; rfl)
  · exact fun _ _ _ h => h
  · rfl
  · intro w hSw
    (try dsimp only at hSw)
    go_simp
    try with_reducible rfl
  simp only [put_arr, List.set_cons_zero, List.set_cons_succ]
  refine wpAnyH_take (i := 6) (oi := ?_) (v := ?_) ?_ (by kernel_rfl) (by kernel_rfl) (by kernel_rfl) ?_ (Or.inl ⟨?_, ?_⟩) (by assumption) ?_
  rotate_left 2
  · (simp only [List.getElem?_toArray, List.getElem?_cons_zero, List.getElem?_cons_succ]; rfl)
  · exact fun _ _ _ h => h
  · rfl
  · intro w hSw
    (try dsimp only at hSw)
    go_simp
    try with_reducible rfl
  simp only [put_arr, List.set_cons_zero, List.set_cons_succ]
  refine wpAnyH_ready (rs := [1]) (by kernel_rfl) (by simp) ?_
  refine AllReadyH.cons (o := ?_) ?_ (fun K hK => ?_) AllReadyH.nil
  rotate_left
  · (simp only [List.getElem?_toArray, List.getElem?_cons_zero, List.getElem?_cons_succ]; rfl)
  rw [if_pos (by rfl)]
  go_simp
  (with_reducible refine (toLastS_any _ _ _ _ _ ((hr0.below HW).below hHeld.1) hs0).mono ?_)
  rintro e w3 ⟨As, cs, rfl, os, hb3⟩
  have y3 : w2.heap.size ≤ w3.heap.size := Nat.le_trans hHeld.1.size hb3.size
  have ya3 := (hHeld.1).size
  have yb3 := hb3.size
  have Ls := Lib.hid os.lt
  have HZ3 := Bl.then (w := w2) hHeld.1 hb3
  go_wp2_with fail
  refine hK.out _ _ (old_of HZ3) (fun hHeld2 => ?_)
  clear hK K hHeld
  have hHeld := hHeld2
  clear hHeld2
  refine wpAnyH_ready (rs := [3]) (by kernel_rfl) (by simp) ?_
  refine AllReadyH.cons (o := ?_) ?_ (fun K hK => ?_) AllReadyH.nil
  rotate_left
  · (simp only [List.getElem?_toArray, List.getElem?_cons_zero, List.getElem?_cons_succ]; rfl)
  rw [if_pos (by rfl)]
  go_simp
  (with_reducible refine (toFoot_any _ _ _ _ _).mono ?_)
  rintro e w4 ⟨rfl, hb4⟩
  have y4 : w2.heap.size ≤ w4.heap.size := Nat.le_trans HZ3.size hb4.size
  have ya4 := (HZ3).size
  have yb4 := hb4.size
  replace os := own_below os hb4
  have HZ4 := Bl.then (w := w2) HZ3 hb4
  go_wp2_with fail
  refine hK.out _ _ (old_of HZ4) (fun hHeld2 => ?_)
  clear hK K hHeld
  have hHeld := hHeld2
  clear hHeld2
  refine wpAnyH_ready (rs := [5]) (by kernel_rfl) (by simp) ?_
  refine AllReadyH.cons (o := ?_) ?_ (fun K hK => ?_) AllReadyH.nil
  rotate_left
  · (simp only [List.getElem?_toArray, List.getElem?_cons_zero, List.getElem?_cons_succ]; rfl)
  rw [if_pos (by rfl)]
  go_simp
  (with_reducible refine (toFoot_any _ _ _ _ _).mono ?_)
  rintro e w5 ⟨rfl, hb5⟩
  have y5 : w2.heap.size ≤ w5.heap.size := Nat.le_trans HZ4.size hb5.size
  have ya5 := (HZ4).size
  have yb5 := hb5.size
  replace os := own_below os hb5
  have HZ5 := Bl.then (w := w2) HZ4 hb5
  go_wp2_with fail
  refine hK.out _ _ (old_of HZ5) (fun hHeld2 => ?_)
  clear hK K hHeld
  have hHeld := hHeld2
  clear hHeld2
  refine wpAnyH_ready (rs := [7]) (by kernel_rfl) (by simp) ?_
  refine AllReadyH.cons (o := ?_) ?_ (fun K hK => ?_) AllReadyH.nil
  rotate_left
  · (simp only [List.getElem?_toArray, List.getElem?_cons_zero, List.getElem?_cons_succ]; rfl)
  rw [if_pos (by rfl)]
  go_simp
  (with_reducible refine (toFit_any _ _ _ _ _ _ _ _ ((hr3.below HW).below HZ5) hs3).mono ?_)
  rintro e w6 ⟨At, ct, rfl, ot, hb6⟩
  have y6 : w2.heap.size ≤ w6.heap.size := Nat.le_trans HZ5.size hb6.size
  have ya6 := (HZ5).size
  have yb6 := hb6.size
  replace os := own_below os hb6
  have Lt := Lib.hid ot.lt
  have HZ6 := Bl.then (w := w2) HZ5 hb6
  go_wp2_with fail
  refine hK.out _ _ (old_of HZ6) (fun hHeld2 => ?_)
  clear hK K hHeld
  have hHeld := hHeld2
  clear hHeld2
  refine wpAnyH_ready (rs := [8]) (by kernel_rfl) (by simp) ?_
  refine AllReadyH.cons (o := ?_) ?_ (fun K hK => ?_) AllReadyH.nil
  rotate_left
  · (simp only [List.getElem?_toArray, List.getElem?_cons_zero, List.getElem?_cons_succ]; rfl)
  rw [if_pos (by rfl)]
  go_simp
  (with_reducible refine (sPairLast_any _ _ _ z0 (⟨a1, b1, c1, d1⟩ : FootD) (⟨a2, b2, c2, d2⟩ : FootD) _ _ _ _ _ _ z3 _ (Rd.of_own os) hs0 hx0 (Rd.of_own ot) hs3).mono ?_)
  rintro e w7 ⟨rfl, hb7⟩
  have y7 : w2.heap.size ≤ w7.heap.size := Nat.le_trans HZ6.size hb7.size
  have ya7 := (HZ6).size
  have yb7 := hb7.size
  replace os := own_below os hb7
  replace ot := own_below ot hb7
  have HZ7 := Bl.then (w := w2) HZ6 hb7
  go_wp2_with fail
  refine hK.out _ _ (old_of HZ7) (fun hHeld2 => ?_)
  clear hK K hHeld
  have hHeld := hHeld2
  clear hHeld2
  refine wpAnyH_take (i := 9) (oi := ?_) (v := ?_) ?_ (by kernel_rfl) (by kernel_rfl) (by kernel_rfl) ?_ (Or.inl ⟨?_, ?_⟩) (by assumption) ?_
  rotate_left 2
  · (simp only [List.getElem?_toArray, List.getElem?_cons_zero, List.getElem?_cons_succ]; rfl)
  · exact fun _ _ _ h => h
  · rfl
  · intro w hSw
    (try dsimp only at hSw)
    go_simp
    try with_reducible rfl
  simp only [put_arr, List.set_cons_zero, List.set_cons_succ]
  refine wpAnyH_take (i := 10) (oi := ?_) (v := ?_) ?_ (by kernel_rfl) (by kernel_rfl) (by kernel_rfl) ?_ (Or.inl ⟨?_, ?_⟩) (by assumption) ?_
  rotate_left 2
  · (simp only [List.getElem?_toArray, List.getElem?_cons_zero, List.getElem?_cons_succ]; rfl)
  · exact fun _ _ _ h => h
  · rfl
  · intro w hSw
    (try dsimp only at hSw)
    go_simp
    try with_reducible rfl
  simp only [put_arr, List.set_cons_zero, List.set_cons_succ]
  refine wpAnyH_take (i := 11) (oi := ?_) (v := ?_) ?_ (by kernel_rfl) (by kernel_rfl) (by kernel_rfl) ?_ (Or.inl ⟨?_, ?_⟩) (by assumption) ?_
  rotate_left 2
  · (simp only [List.getElem?_toArray, List.getElem?_cons_zero, List.getElem?_cons_succ]; rfl)
  · exact fun _ _ _ h => h
  · rfl
  · intro w hSw
    (try dsimp only at hSw)
    go_simp
    try with_reducible rfl
  simp only [put_arr, List.set_cons_zero, List.set_cons_succ]
  refine wpAnyH_take (i := 12) (oi := ?_) (v := ?_) ?_ (by kernel_rfl) (by kernel_rfl) (by kernel_rfl) ?_ (Or.inl ⟨?_, ?_⟩) (by assumption) ?_
  rotate_left 2
  · (simp only [List.getElem?_toArray, List.getElem?_cons_zero, List.getElem?_cons_succ]; rfl)
  · exact fun _ _ _ h => h
  · rfl
  · intro w hSw
    (try dsimp only at hSw)
    go_simp
    try with_reducible rfl
  simp only [put_arr, List.set_cons_zero, List.set_cons_succ]
  refine wpAnyH_take (i := 13) (oi := ?_) (v := ?_) ?_ (by kernel_rfl) (by kernel_rfl) (by kernel_rfl) ?_ (Or.inl ⟨?_, ?_⟩) (by assumption) ?_
  rotate_left 2
  · (simp only [List.getElem?_toArray, List.getElem?_cons_zero, List.getElem?_cons_succ]; rfl)
  · exact fun _ _ _ h => h
  · rfl
  · intro w hSw
    (try dsimp only at hSw)
    go_simp
    try with_reducible rfl
  simp only [put_arr, List.set_cons_zero, List.set_cons_succ]
  refine wpAnyH_done (by kernel_rfl) ?_ _
  clear hHeld
  clear kF lF kG lG kQ lQ
  replace BF := BF.below HZ7
  replace BG := BG.below HZ7
  replace BQ := BQ.below HZ7
  replace HW := Bl.then HW HZ7
  have zw7 : w2.heap.size ≤ w7.heap.size := HZ7.size
  have kF := BF.cell
  have lF := BF.lt
  have kG := BG.cell
  have lG := BG.lt
  have kQ := BQ.cell
  have lQ := BQ.lt
  clear os Ls
  clear ot Lt
  go_wp2_with fail
  refine (toLastS_any _ _ _ _ _ (hr0.below HW) hs0).mono ?_
  rintro e w8 ⟨Ax, cx, rfl, ox, hb8⟩
  have Lx := Lib.hid ox.lt
  clear kF lF kG lG kQ lQ
  replace BF := BF.below hb8
  replace BG := BG.below hb8
  replace BQ := BQ.below hb8
  replace HW := Bl.then HW hb8
  have zw8 : w7.heap.size ≤ w8.heap.size := hb8.size
  clear hb8
  have kF := BF.cell
  have lF := BF.lt
  have kG := BG.cell
  have lG := BG.lt
  have kQ := BQ.cell
  have lQ := BQ.lt
  go_wp2_with fail
  refine (toFit_any _ _ _ _ _ _ _ _ (hr3.below HW) hs3).mono ?_
  rintro e w9 ⟨Aq, cq, rfl, oq, hb9⟩
  have Lq := Lib.hid oq.lt
  clear kF lF kG lG kQ lQ
  replace BF := BF.below hb9
  replace BG := BG.below hb9
  replace BQ := BQ.below hb9
  replace ox := own_below ox hb9
  replace HW := Bl.then HW hb9
  have zw9 : w8.heap.size ≤ w9.heap.size := hb9.size
  clear hb9
  have kF := BF.cell
  have lF := BF.lt
  have kG := BG.cell
  have lG := BG.lt
  have kQ := BQ.cell
  have lQ := BQ.lt
  go_wp2_with fail
  clear kF lF kG lG kQ lQ
  replace BF := BF.alloc (.cells #[.int .i64 a3, .int .i64 b3, .int .i64 c3, .slice Aq n3 cq] 53)
  replace BG := BG.alloc (.cells #[.int .i64 a3, .int .i64 b3, .int .i64 c3, .slice Aq n3 cq] 53)
  replace BQ := BQ.alloc (.cells #[.int .i64 a3, .int .i64 b3, .int .i64 c3, .slice Aq n3 cq] 53)
  replace ox := ox.alloc (.cells #[.int .i64 a3, .int .i64 b3, .int .i64 c3, .slice Aq n3 cq] 53)
  replace oq := oq.alloc (.cells #[.int .i64 a3, .int .i64 b3, .int .i64 c3, .slice Aq n3 cq] 53)
  have BX := Blk.new w9 53 #[.int .i64 a3, .int .i64 b3, .int .i64 c3, .slice Aq n3 cq]
  replace HW := Bl.alloc HW (.cells #[.int .i64 a3, .int .i64 b3, .int .i64 c3, .slice Aq n3 cq] 53)
  have z10 : w9.heap.size ≤ (w9.alloc (.cells #[.int .i64 a3, .int .i64 b3, .int .i64 c3, .slice Aq n3 cq] 53)).heap.size := by simp
  generalize w9.alloc (.cells #[.int .i64 a3, .int .i64 b3, .int .i64 c3, .slice Aq n3 cq] 53) = v10 at *
  have kF := BF.cell
  have lF := BF.lt
  have kG := BG.cell
  have lG := BG.lt
  have kQ := BQ.cell
  have lQ := BQ.lt
  have kX := BX.cell
  have lX := BX.lt
  refine wp_region_held_drew (S := (fun wz => Below v10.heap.size v10 wz ∧ ∀ b o, b < v10.heap.size → wz.cell? ⟨b, o, none⟩ = v10.cell? ⟨b, o, none⟩)) (by kernel_rfl) (old_of (Below.drew (Below.refl _ _))) (fun hHeld => ?_)
  refine wpAnyH_take (i := 0) (oi := ?_) (v := ?_) ?_ (by kernel_rfl) (by kernel_rfl) (by kernel_rfl) ?_ (Or.inl ⟨?_, ?_⟩) (by assumption) ?_
  rotate_left 2
  · (simp only [List.getElem?_toArray, List.getElem?_cons_zero]; rfl)
  · exact fun _ _ _ h => h
  · rfl
  · intro w hSw
    (try dsimp only at hSw)
    go_simp
    try with_reducible rfl
  simp only [put_arr, List.set_cons_zero, List.set_cons_succ]
  refine wpAnyH_take (i := 1) (oi := ?_) (v := ?_) ?_ (by kernel_rfl) (by kernel_rfl) (by kernel_rfl) ?_ (Or.inl ⟨?_, ?_⟩) (by assumption) ?_
  rotate_left 2
  · (simp only [List.getElem?_toArray, List.getElem?_cons_zero, List.getElem?_cons_succ]; rfl)
  · exact fun _ _ _ h => h
  · rfl
  · intro w hSw
    (try dsimp only at hSw)
    go_simp
    try with_reducible rfl
  simp only [put_arr, List.set_cons_zero, List.set_cons_succ]
  refine wpAnyH_take (i := 3) (oi := ?_) (v := ?_) ?_ (by kernel_rfl) (by kernel_rfl) (by kernel_rfl) ?_ (Or.inl ⟨?_, ?_⟩) (by assumption) ?_
  rotate_left 2
  · (simp only [List.getElem?_toArray, List.getElem?_cons_zero, List.getElem?_cons_succ]; rfl)
  · exact fun _ _ _ h => h
  · rfl
  · intro w hSw
    (try dsimp only at hSw)
    go_simp
    try with_reducible rfl
  simp only [put_arr, List.set_cons_zero, List.set_cons_succ]
  refine wpAnyH_take (i := 5) (oi := ?_) (v := ?_) ?_ (by kernel_rfl) (by kernel_rfl) (by kernel_rfl) ?_ (Or.inl ⟨?_, ?_⟩) (by assumption) ?_
  rotate_left 2
  · (simp only [List.getElem?_toArray, List.getElem?_cons_zero, List.getElem?_cons_succ]; rfl)
  · exact fun _ _ _ h => h
  · rfl
  · intro w hSw
    (try dsimp only at hSw)
    go_simp
    try with_reducible rfl
  simp only [put_arr, List.set_cons_zero, List.set_cons_succ]
  refine wpAnyH_ready (rs := [2]) (by kernel_rfl) (by simp) ?_
  refine AllReadyH.cons (o := ?_) ?_ (fun K hK => ?_) AllReadyH.nil
  rotate_left
  · (simp only [List.getElem?_toArray, List.getElem?_cons_zero, List.getElem?_cons_succ]; rfl)
  rw [if_pos (by rfl)]
  go_simp
  (with_reducible refine (toFoot_any _ _ _ _ _).mono ?_)
  rintro e w11 ⟨rfl, hb11⟩
  have y11 : v10.heap.size ≤ w11.heap.size := Nat.le_trans hHeld.1.size hb11.size
  have ya11 := (hHeld.1).size
  have yb11 := hb11.size
  have HZ11 := Bl.then (w := v10) hHeld.1 hb11
  go_wp2_with fail
  refine hK.out _ _ (old_of HZ11) (fun hHeld2 => ?_)
  clear hK K hHeld
  have hHeld := hHeld2
  clear hHeld2
  refine wpAnyH_ready (rs := [4]) (by kernel_rfl) (by simp) ?_
  refine AllReadyH.cons (o := ?_) ?_ (fun K hK => ?_) AllReadyH.nil
  rotate_left
  · (simp only [List.getElem?_toArray, List.getElem?_cons_zero, List.getElem?_cons_succ]; rfl)
  rw [if_pos (by rfl)]
  go_simp
  (with_reducible refine (toFoot_any _ _ _ _ _).mono ?_)
  rintro e w12 ⟨rfl, hb12⟩
  have y12 : v10.heap.size ≤ w12.heap.size := Nat.le_trans HZ11.size hb12.size
  have ya12 := (HZ11).size
  have yb12 := hb12.size
  have HZ12 := Bl.then (w := v10) HZ11 hb12
  go_wp2_with fail
  refine hK.out _ _ (old_of HZ12) (fun hHeld2 => ?_)
  clear hK K hHeld
  have hHeld := hHeld2
  clear hHeld2
  refine wpAnyH_ready (rs := [6]) (by kernel_rfl) (by simp) ?_
  refine AllReadyH.cons (o := ?_) ?_ (fun K hK => ?_) AllReadyH.nil
  rotate_left
  · (simp only [List.getElem?_toArray, List.getElem?_cons_zero, List.getElem?_cons_succ]; rfl)
  rw [if_pos (by rfl)]
  go_simp
  (with_reducible refine (PairLast_any _ _ _ z0 (⟨a1, b1, c1, d1⟩ : FootD) (⟨a2, b2, c2, d2⟩ : FootD) _ _ _ _ _ _ z3 _ ((Rd.of_own ox).below HZ12) hs0 hx0 ((Rd.of_own oq).below HZ12) hs3).mono ?_)
  rintro e w13 ⟨rfl, hb13⟩
  have y13 : v10.heap.size ≤ w13.heap.size := Nat.le_trans HZ12.size hb13.size
  have ya13 := (HZ12).size
  have yb13 := hb13.size
  have HZ13 := Bl.then (w := v10) HZ12 hb13
  go_wp2_with fail
  refine hK.out _ _ (old_of HZ13) (fun hHeld2 => ?_)
  clear hK K hHeld
  have hHeld := hHeld2
  clear hHeld2
  refine wpAnyH_take (i := 7) (oi := ?_) (v := ?_) ?_ (by kernel_rfl) (by kernel_rfl) (by kernel_rfl) ?_ (Or.inl ⟨?_, ?_⟩) (by assumption) ?_
  rotate_left 2
  · (simp only [List.getElem?_toArray, List.getElem?_cons_zero, List.getElem?_cons_succ]; rfl)
  · exact fun _ _ _ h => h
  · rfl
  · intro w hSw
    (try dsimp only at hSw)
    go_simp
    try with_reducible rfl
  simp only [put_arr, List.set_cons_zero, List.set_cons_succ]
  refine wpAnyH_take (i := 8) (oi := ?_) (v := ?_) ?_ (by kernel_rfl) (by kernel_rfl) (by kernel_rfl) ?_ (Or.inl ⟨?_, ?_⟩) (by assumption) ?_
  rotate_left 2
  · (simp only [List.getElem?_toArray, List.getElem?_cons_zero, List.getElem?_cons_succ]; rfl)
  · exact fun _ _ _ h => h
  · rfl
  · intro w hSw
    (try dsimp only at hSw)
    go_simp
    try with_reducible rfl
  simp only [put_arr, List.set_cons_zero, List.set_cons_succ]
  refine wpAnyH_take (i := 9) (oi := ?_) (v := ?_) ?_ (by kernel_rfl) (by kernel_rfl) (by kernel_rfl) ?_ (Or.inl ⟨?_, ?_⟩) (by assumption) ?_
  rotate_left 2
  · (simp only [List.getElem?_toArray, List.getElem?_cons_zero, List.getElem?_cons_succ]; rfl)
  · exact fun _ _ _ h => h
  · rfl
  · intro w hSw
    (try dsimp only at hSw)
    go_simp
    try with_reducible rfl
  simp only [put_arr, List.set_cons_zero, List.set_cons_succ]
  refine wpAnyH_take (i := 10) (oi := ?_) (v := ?_) ?_ (by kernel_rfl) (by kernel_rfl) (by kernel_rfl) ?_ (Or.inl ⟨?_, ?_⟩) (by assumption) ?_
  rotate_left 2
  · (simp only [List.getElem?_toArray, List.getElem?_cons_zero, List.getElem?_cons_succ]; rfl)
  · exact fun _ _ _ h => h
  · rfl
  · intro w hSw
    (try dsimp only at hSw)
    go_simp
    try with_reducible rfl
  simp only [put_arr, List.set_cons_zero, List.set_cons_succ]
  refine wpAnyH_take (i := 11) (oi := ?_) (v := ?_) ?_ (by kernel_rfl) (by kernel_rfl) (by kernel_rfl) ?_ (Or.inl ⟨?_, ?_⟩) (by assumption) ?_
  rotate_left 2
  · (simp only [List.getElem?_toArray, List.getElem?_cons_zero, List.getElem?_cons_succ]; rfl)
  · exact fun _ _ _ h => h
  · rfl
  · intro w hSw
    (try dsimp only at hSw)
    go_simp
    try with_reducible rfl
  simp only [put_arr, List.set_cons_zero, List.set_cons_succ]
  refine wpAnyH_done (by kernel_rfl) ?_ _
  clear hHeld
  clear kF lF kG lG kQ lQ kX lX
  replace BF := BF.below HZ13
  replace BG := BG.below HZ13
  replace BQ := BQ.below HZ13
  replace BX := BX.below HZ13
  replace ox := own_below ox HZ13
  replace oq := own_below oq HZ13
  replace HW := Bl.then HW HZ13
  have zw13 : v10.heap.size ≤ w13.heap.size := HZ13.size
  have kF := BF.cell
  have lF := BF.lt
  have kG := BG.cell
  have lG := BG.lt
  have kQ := BQ.cell
  have lQ := BQ.lt
  have kX := BX.cell
  have lX := BX.lt
  go_wp2_with fail
  refine (toLastS_any _ _ _ _ _ (hr0.below HW) hs0).mono ?_
  rintro e w14 ⟨Ay, cy, rfl, oy, hb14⟩
  have Ly := Lib.hid oy.lt
  clear kF lF kG lG kQ lQ kX lX
  replace BF := BF.below hb14
  replace BG := BG.below hb14
  replace BQ := BQ.below hb14
  replace BX := BX.below hb14
  replace ox := own_below ox hb14
  replace oq := own_below oq hb14
  replace HW := Bl.then HW hb14
  have zw14 : w13.heap.size ≤ w14.heap.size := hb14.size
  clear hb14
  have kF := BF.cell
  have lF := BF.lt
  have kG := BG.cell
  have lG := BG.lt
  have kQ := BQ.cell
  have lQ := BQ.lt
  have kX := BX.cell
  have lX := BX.lt
  go_wp2_with fail
  refine (eqLastS_same _ _ _ _ _ _ _ (Rd.of_own ox) (Rd.of_own oy) (by omega)).mono ?_
  rintro e w15 ⟨rfl, hb15⟩
  clear kF lF kG lG kQ lQ kX lX
  replace BF := BF.below hb15
  replace BG := BG.below hb15
  replace BQ := BQ.below hb15
  replace BX := BX.below hb15
  replace ox := own_below ox hb15
  replace oq := own_below oq hb15
  replace oy := own_below oy hb15
  replace HW := Bl.then HW hb15
  have zw15 : w14.heap.size ≤ w15.heap.size := hb15.size
  clear hb15
  have kF := BF.cell
  have lF := BF.lt
  have kG := BG.cell
  have lG := BG.lt
  have kQ := BQ.cell
  have lQ := BQ.lt
  have kX := BX.cell
  have lX := BX.lt
  clear oy Ly
  go_wp2_with fail
  refine wp_region_held_drew (S := (fun wz => Below w15.heap.size w15 wz ∧ ∀ b o, b < w15.heap.size → wz.cell? ⟨b, o, none⟩ = w15.cell? ⟨b, o, none⟩)) (by kernel_rfl) (old_of (Below.drew (Below.refl _ _))) (fun hHeld => ?_)
  refine wpAnyH_take (i := 0) (oi := ?_) (v := ?_) ?_ (by kernel_rfl) (by kernel_rfl) (by kernel_rfl) ?_ (Or.inl ⟨?_, ?_⟩) (by assumption) ?_
  rotate_left 2
  · (simp only [List.getElem?_toArray, List.getElem?_cons_zero]; rfl)
  · exact fun _ _ _ h => h
  · rfl
  · intro w hSw
    (try dsimp only at hSw)
    go_simp
    try with_reducible rfl
  simp only [put_arr, List.set_cons_zero, List.set_cons_succ]
  refine wpAnyH_take (i := 1) (oi := ?_) (v := ?_) ?_ (by kernel_rfl) (by kernel_rfl) (by kernel_rfl) ?_ (Or.inl ⟨?_, ?_⟩) (by assumption) ?_
  rotate_left 2
  · (simp only [List.getElem?_toArray, List.getElem?_cons_zero, List.getElem?_cons_succ]; rfl)
  · exact fun _ _ _ h => h
  · rfl
  · intro w hSw
    (try dsimp only at hSw)
    go_simp
    try with_reducible rfl
  simp only [put_arr, List.set_cons_zero, List.set_cons_succ]
  refine wpAnyH_ready (rs := [2]) (by kernel_rfl) (by simp) ?_
  refine AllReadyH.cons (o := ?_) ?_ (fun K hK => ?_) AllReadyH.nil
  rotate_left
  · (simp only [List.getElem?_toArray, List.getElem?_cons_zero, List.getElem?_cons_succ]; rfl)
  rw [if_pos (by rfl)]
  go_simp
  (with_reducible refine (toFit_any _ _ _ _ _ _ _ _ ((hr3.below HW).below hHeld.1) hs3).mono ?_)
  rintro e w16 ⟨Ay, cy, rfl, oy, hb16⟩
  have y16 : w15.heap.size ≤ w16.heap.size := Nat.le_trans hHeld.1.size hb16.size
  have ya16 := (hHeld.1).size
  have yb16 := hb16.size
  have Ly := Lib.hid oy.lt
  have HZ16 := Bl.then (w := w15) hHeld.1 hb16
  go_wp2_with fail
  refine hK.out _ _ (old_of HZ16) (fun hHeld2 => ?_)
  clear hK K hHeld
  have hHeld := hHeld2
  clear hHeld2
  refine wpAnyH_ready (rs := [3]) (by kernel_rfl) (by simp) ?_
  refine AllReadyH.cons (o := ?_) ?_ (fun K hK => ?_) AllReadyH.nil
  rotate_left
  · (simp only [List.getElem?_toArray, List.getElem?_cons_zero, List.getElem?_cons_succ]; rfl)
  rw [if_pos (by rfl)]
  go_simp
  (with_reducible refine (eqFit_same _ _ _ _ _ _ _ _ _ _ ((Rd.of_own oq).below HZ16) (Rd.of_own oy) (by omega)).mono ?_)
  rintro e w17 ⟨rfl, hb17⟩
  have y17 : w15.heap.size ≤ w17.heap.size := Nat.le_trans HZ16.size hb17.size
  have ya17 := (HZ16).size
  have yb17 := hb17.size
  replace oy := own_below oy hb17
  have HZ17 := Bl.then (w := w15) HZ16 hb17
  go_wp2_with fail
  refine hK.out _ _ (old_of HZ17) (fun hHeld2 => ?_)
  clear hK K hHeld
  have hHeld := hHeld2
  clear hHeld2
  refine wpAnyH_take (i := 4) (oi := ?_) (v := ?_) ?_ (by kernel_rfl) (by kernel_rfl) (by kernel_rfl) ?_ (Or.inl ⟨?_, ?_⟩) (by assumption) ?_
  rotate_left 2
  · (simp only [List.getElem?_toArray, List.getElem?_cons_zero, List.getElem?_cons_succ]; rfl)
  · exact fun _ _ _ h => h
  · rfl
  · intro w hSw
    (try dsimp only at hSw)
    go_simp
    try with_reducible rfl
  simp only [put_arr, List.set_cons_zero, List.set_cons_succ]
  refine wpAnyH_done (by kernel_rfl) ?_ _
  clear hHeld
  clear kF lF kG lG kQ lQ kX lX
  replace BF := BF.below HZ17
  replace BG := BG.below HZ17
  replace BQ := BQ.below HZ17
  replace BX := BX.below HZ17
  replace ox := own_below ox HZ17
  replace oq := own_below oq HZ17
  replace HW := Bl.then HW HZ17
  have zw17 : w15.heap.size ≤ w17.heap.size := HZ17.size
  have kF := BF.cell
  have lF := BF.lt
  have kG := BG.cell
  have lG := BG.lt
  have kQ := BQ.cell
  have lQ := BQ.lt
  have kX := BX.cell
  have lX := BX.lt
  go_wp2_with fail
  go_ret
  exact ⟨rfl, HW⟩

/-! ### The row: the argument opened, the walk, and everything read again behind it. -/
set_option maxRecDepth 100000 in
theorem lifted (os : Os) (started : os.Started) (H : Type) (enc : TypeId × Value → H) :
    ReturnsInHanded {} Try.checked os 11 .any (Rows.fnExactPairLastSpec.pre6 enc Try.prog Try.f11 Rows.fnExactPairLastRow.domain false) (Rows.fnExactPairLastSpec.post enc Try.prog Try.f11 false true false false) := by
  refine returnsInHanded_of_change (C := Try.checked) own started (by kernel_rfl) Try.func11
    (ChangeSpec.witness6 (enc := enc) (C := Try.checked) false ⟨#[], #[.slice none 0 0, .agg #[.int .i64 0, .int .i64 0, .int .i64 0, .int .i64 0], .agg #[.int .i64 0, .int .i64 0, .int .i64 0, .int .i64 0], .agg #[.int .i64 0, .int .i64 0, .int .i64 0, .slice none 0 0]], []⟩ 8 (by kernel_rfl) (by kernel_rfl) (by kernel_rfl) (by kernel_rfl)) ?_
  intro W base args ds gs before hval0 hW hcnd _
  have hval : ∀ (j : Nat) t v, Try.f11.params[j]? = some t → args[j]? = some v → Value.okWide Try.prog W .any base t v := hval0
  have hW' := hW
  obtain ⟨p, q, hA0, hV, rfl, hfz, hnd⟩ := hW
  have hA : DataW.TrodAll enc Try.prog W 0 (fun _ => true) true Try.f11.params.toList args.toList ds p := hA0
  rw [Try.params11] at hA hval
  obtain ⟨v0, vs0, d0, ds0, p0, q0, hargs, rfl, rfl, h0, r0⟩ := trodAll_cons hA
  obtain ⟨v1, vs1, d1, ds1, p1, q1, rfl, rfl, rfl, h1, r1⟩ := trodAll_cons r0
  obtain ⟨v2, vs2, d2, ds2, p2, q2, rfl, rfl, rfl, h2, r2⟩ := trodAll_cons r1
  obtain ⟨v3, vs3, d3, ds3, p3, q3, rfl, rfl, rfl, h3, r3⟩ := trodAll_cons r2
  obtain ⟨rfl, rfl, rfl⟩ := trodAll_nil r3
  obtain rfl : args = #[v0, v1, v2, v3] := by cases args; simp_all
  obtain ⟨rfl, rfl⟩ := trodVars_none hV
  have k0 := h0
  have lt0 : ∀ x ∈ p0, x.block < W.heap.size := by obtain ⟨m, hm⟩ := k0; exact DataW.trod_lt m _ _ _ hm
  have k1 := h1
  have lt1 : ∀ x ∈ p1, x.block < W.heap.size := by obtain ⟨m, hm⟩ := k1; exact DataW.trod_lt m _ _ _ hm
  have k2 := h2
  have lt2 : ∀ x ∈ p2, x.block < W.heap.size := by obtain ⟨m, hm⟩ := k2; exact DataW.trod_lt m _ _ _ hm
  have k3 := h3
  have lt3 : ∀ x ∈ p3, x.block < W.heap.size := by obtain ⟨m, hm⟩ := k3; exact DataW.trod_lt m _ _ _ hm
  obtain ⟨A0, n0, m0, rfl⟩ := okWide_slice Try.underlying64 (hval 0 64 v0 rfl rfl)
  obtain ⟨z0, hr0, hn0, hx0⟩ := open_LastS h0
  obtain ⟨a1, b1, c1, d1, rfl, -, -, -, -⟩ := open_Foot (hval 1 57 v1 rfl rfl) h1
  obtain ⟨a2, b2, c2, d2, rfl, -, -, -, -⟩ := open_Foot (hval 2 57 v2 rfl rfl) h2
  obtain ⟨a3, b3, c3, A3, n3, m3, z3, rfl, hr3, hn3⟩ := open_Fit (hval 3 50 v3 rfl rfl) h3
  clear hA0 hval0
  refine (walk A0 n0 m0 z0 a1 b1 c1 d1 a2 b2 c2 d2 a3 b3 c3 A3 n3 m3 z3 W hr0 hn0 hx0 hr3 hn3).mono fun e W' ⟨he, bel⟩ => ?_
  subst he
  exact ⟨_, rfl, _, _, _, [], _, [], hW', trodAll_mk1 (shut_bool Try.underlying4 _), (trodAll_cons_mk (Below.trod laidOut (by kernel_rfl) (of_decide_eq_true (by kernel_rfl)) k0 bel lt0) (trodAll_cons_mk (Below.trod laidOut (by kernel_rfl) (of_decide_eq_true (by kernel_rfl)) k1 bel lt1) (trodAll_cons_mk (Below.trod laidOut (by kernel_rfl) (of_decide_eq_true (by kernel_rfl)) k2 bel lt2) (trodAll_cons_mk (Below.trod laidOut (by kernel_rfl) (of_decide_eq_true (by kernel_rfl)) k3 bel lt3) trodAll_mk0)))), rfl, bel.frame _, fun h => by cases h⟩

theorem over : Rows.fnExactPairLastRow.holds Try.pinned (OpenSpec.ofChange Rows.fnExactPairLastSpec) :=
  OpenClaim.holds_of_wide 11 Try.f11 rfl rfl rfl rfl rfl rfl rfl ⟨rfl, rfl, rfl, rfl, rfl⟩ rfl rfl rfl rfl rfl (by kernel_rfl) Try.func11 (by kernel_rfl)
    (of_decide_eq_true (by kernel_rfl)) (by unfold Func.isWrapper; first | (rw [if_pos (by decide +kernel)]; kernel_rfl) | (rw [if_neg (by decide +kernel)]; exact ⟨rfl, rfl⟩))
    (fun os started H enc _ => lifted os started H enc)

theorem proved : Rows.FnExactPairLastSaid := over
end Go.Proofs.Ytlbgognkaolamaa.lawPairLast
